/- The contracts of PaperOk, FoldsAllowed, CopyOk of both packages, of weakest. -/
import Derived.Test.YtdddglihomchfaaFold4
import Derived.Test.YtdddglihomchfaaFold2
import Derived.Deep.RegionHeld3
import Derived.Deep.QuietTactic
import Derived.BigQuiet
import Derived.Deep.DeepCutAuto
namespace Go.Proofs.Ytdddglihomchfaa
open Go.ChangeShapes Go.WideShapes Go.ChangeAt Go.RowKit
set_option linter.unusedVariables false
set_option linter.unusedSimpArgs false
set_option maxRecDepth 10000

def paperOk (K W H : Int) : Bool := inB K 0 9 && (inB W 40 400 && inB H 0 100000)
theorem paperOk_w {K W H : Int} (h : paperOk K W H = true) : 40 ≤ W ∧ W ≤ 400 := by
  unfold paperOk at h
  simp only [Bool.and_eq_true] at h
  exact inB_iff.1 h.2.1
def foldsAl (K W H : Int) : Int := if paperOk K W H = true then Int.tdiv (Int.tdiv 40000 W) 2 else 0
theorem q_bd {W : Int} (h : 40 ≤ W) : 0 ≤ Int.tdiv 40000 W ∧ Int.tdiv 40000 W ≤ 40000 :=
  ⟨Int.tdiv_nonneg (by omega) (by omega), Int.tdiv_le_self _ (by omega)⟩
theorem foldsAl_bd (K W H : Int) : 0 ≤ foldsAl K W H ∧ foldsAl K W H ≤ 40000 := by
  unfold foldsAl
  split
  · rename_i h
    have h1 := q_bd (paperOk_w h).1
    exact ⟨Int.tdiv_nonneg h1.1 (by omega), Int.le_trans (Int.tdiv_le_self _ h1.1) h1.2⟩
  · omega
def copyOk (d f : Int) (ss : List ByteArray) (K W H O : Int) : Bool := cardOk d f ss && (paperOk K W H && inB O 0 1000000)
def mostF (ss : List ByteArray) : Nat → Int
  | 0 => -1
  | j + 1 => if mostF ss j < foldsOf (sAt ss j) then foldsOf (sAt ss j) else mostF ss j
theorem mostF_gt {ss : List ByteArray} {j : Nat} (h : j < ss.length) (h2 : mostF ss j < foldsOf ss[j]) : mostF ss (j + 1) = foldsOf ss[j] := by
  show (if mostF ss j < foldsOf (sAt ss j) then foldsOf (sAt ss j) else mostF ss j) = _
  rw [sAt_get ss j h, if_pos h2]
theorem mostF_le {ss : List ByteArray} {j : Nat} (h : j < ss.length) (h2 : ¬ mostF ss j < foldsOf ss[j]) : mostF ss (j + 1) = mostF ss j := by
  show (if mostF ss j < foldsOf (sAt ss j) then foldsOf (sAt ss j) else mostF ss j) = _
  rw [sAt_get ss j h, if_neg h2]
theorem mostF_bd (ss : List ByteArray) (hs : ∀ x ∈ ss, x.size ≤ 16777216) : ∀ j, j ≤ ss.length → -1 ≤ mostF ss j ∧ mostF ss j ≤ 16777218
  | 0, _ => by show (-1 : Int) ≤ -1 ∧ (-1 : Int) ≤ 16777218; omega
  | j + 1, h => by
    have h1 := mostF_bd ss hs j (by omega)
    have h2 := foldsOf_bd (sAt ss j) (by rw [sAt_get ss j (by omega)]; exact hs _ (List.getElem_mem _))
    show -1 ≤ (if mostF ss j < foldsOf (sAt ss j) then foldsOf (sAt ss j) else mostF ss j) ∧ (if mostF ss j < foldsOf (sAt ss j) then foldsOf (sAt ss j) else mostF ss j) ≤ 16777218
    split <;> omega
set_option maxHeartbeats 800000 in
theorem i_PaperOk (K W H : Int) (w : World) :
    Calls Try.prog 67 #[.agg #[.int .i64 K, .int .i64 W, .int .i64 H]] w fun e w' => e = .returned (.bool (paperOk K W H)) ∧ Below w.heap.size w w' := by
  cases h1 : inB K 0 9
  · have HR : Hid (paperOk K W H = false) := by unfold Hid paperOk; rw [h1]; rfl
    go_enter Try.func67, Try.ntmps67
    go_wp2_with (go_at_call 40; refine (i_within _ _ _ _).mono ?_; rintro e w' ⟨rfl, rfl⟩)
    go_ret
    exact ⟨ret_bool HR.out.symm, bel⟩
  · cases h2 : inB W 40 400
    · have HR : Hid (paperOk K W H = false) := by unfold Hid paperOk; rw [h1, h2]; rfl
      go_enter Try.func67, Try.ntmps67
      go_wp2_with (go_at_call 40; refine (i_within _ _ _ _).mono ?_; rintro e w' ⟨rfl, rfl⟩)
      go_ret
      exact ⟨ret_bool HR.out.symm, bel⟩
    · have HR : Hid (paperOk K W H = inB H 0 100000) := by unfold Hid paperOk; rw [h1, h2]; rfl
      go_enter Try.func67, Try.ntmps67
      go_wp2_with (go_at_call 40; refine (i_within _ _ _ _).mono ?_; rintro e w' ⟨rfl, rfl⟩)
      go_ret
      exact ⟨ret_bool HR.out.symm, bel⟩
set_option maxHeartbeats 800000 in
theorem s_PaperOk (K W H : Int) (w : World) :
    Calls Try.prog 65 #[.agg #[.int .i64 K, .int .i64 W, .int .i64 H]] w fun e w' => e = .returned (.bool (paperOk K W H)) ∧ Below w.heap.size w w' := by
  cases h1 : inB K 0 9
  · have HR : Hid (paperOk K W H = false) := by unfold Hid paperOk; rw [h1]; rfl
    go_enter Try.func65, Try.ntmps65
    go_wp2_with (go_at_call 35; refine (s_l01In _ _ _ _).mono ?_; rintro e w' ⟨rfl, rfl⟩)
    go_ret
    exact ⟨ret_bool HR.out.symm, bel⟩
  · cases h2 : inB W 40 400
    · have HR : Hid (paperOk K W H = false) := by unfold Hid paperOk; rw [h1, h2]; rfl
      go_enter Try.func65, Try.ntmps65
      go_wp2_with (go_at_call 35; refine (s_l01In _ _ _ _).mono ?_; rintro e w' ⟨rfl, rfl⟩)
      go_ret
      exact ⟨ret_bool HR.out.symm, bel⟩
    · have HR : Hid (paperOk K W H = inB H 0 100000) := by unfold Hid paperOk; rw [h1, h2]; rfl
      go_enter Try.func65, Try.ntmps65
      go_wp2_with (go_at_call 35; refine (s_l01In _ _ _ _).mono ?_; rintro e w' ⟨rfl, rfl⟩)
      go_ret
      exact ⟨ret_bool HR.out.symm, bel⟩
set_option maxHeartbeats 800000 in
theorem i_FoldsAllowed (K W H : Int) (w : World) :
    Calls Try.prog 62 #[.agg #[.int .i64 K, .int .i64 W, .int .i64 H], .bool true] w fun e w' => e = .returned (.int .i64 (foldsAl K W H)) ∧ Below w.heap.size w w' := by
  cases h : paperOk K W H
  · have HR : Hid (foldsAl K W H = 0) := by unfold Hid foldsAl; rw [h]; rfl
    have HP := Lib.hid h
    clear h
    go_enter Try.func62, Try.ntmps62
    go_wp2_with (go_at_call 67; refine (i_PaperOk K W H _).mono ?_; rw [HP.out]; rintro e w1 ⟨rfl, hb1⟩; obtain ⟨hcb1, hfb1⟩ := bcell hb1; have hz_w1_0 : w.heap.size < w1.heap.size := (by have hzz := hb1.size; (try simp at hzz); omega); have hy_w1_0 := Nat.le_of_lt hz_w1_0)
    go_ret
    exact ⟨ret_int HR.out.symm, bel⟩
  · have HR : Hid (foldsAl K W H = Int.tdiv (Int.tdiv 40000 W) 2) := by unfold Hid foldsAl; rw [h]; rfl
    have HP := Lib.hid h
    obtain ⟨hw40, hw400⟩ := paperOk_w h
    have h1 := q_bd hw40
    have h2 : 0 ≤ Int.tdiv (Int.tdiv 40000 W) 2 := Int.tdiv_nonneg h1.1 (by omega)
    have h3 : Int.tdiv (Int.tdiv 40000 W) 2 ≤ 40000 := Int.le_trans (Int.tdiv_le_self _ h1.1) h1.2
    have hw1 : IntKind.i64.wrap (Int.tdiv 40000 W) = Int.tdiv 40000 W := by rw [IntKind.wrap_i64]; omega
    have hw2 : IntKind.i64.wrap (Int.tdiv (Int.tdiv 40000 W) 2) = Int.tdiv (Int.tdiv 40000 W) 2 := by rw [IntKind.wrap_i64]; omega
    have hW0 : ¬ W = 0 := by omega
    have hWm : ¬ W = -1 := by omega
    clear h h1 h2 h3
    go_enter Try.func62, Try.ntmps62
    go_wp2_with (go_at_call 67; refine (i_PaperOk K W H _).mono ?_; rw [HP.out]; rintro e w1 ⟨rfl, hb1⟩; obtain ⟨hcb1, hfb1⟩ := bcell hb1; have hz_w1_0 : w.heap.size < w1.heap.size := (by have hzz := hb1.size; (try simp at hzz); omega); have hy_w1_0 := Nat.le_of_lt hz_w1_0)
    go_ret
    exact ⟨ret_int HR.out.symm, bel⟩
set_option maxHeartbeats 800000 in
theorem s_FoldsAllowed (K W H : Int) (w : World) :
    Calls Try.prog 29 #[.agg #[.int .i64 K, .int .i64 W, .int .i64 H], .bool true] w fun e w' => e = .returned (.int .i64 (foldsAl K W H)) ∧ Below w.heap.size w w' := by
  cases h : paperOk K W H
  · have HR : Hid (foldsAl K W H = 0) := by unfold Hid foldsAl; rw [h]; rfl
    have HP := Lib.hid h
    clear h
    go_enter Try.func29, Try.ntmps29
    go_wp2_with (go_at_call 65; refine (s_PaperOk K W H _).mono ?_; rw [HP.out]; rintro e w1 ⟨rfl, hb1⟩; obtain ⟨hcb1, hfb1⟩ := bcell hb1; have hz_w1_0 : w.heap.size < w1.heap.size := (by have hzz := hb1.size; (try simp at hzz); omega); have hy_w1_0 := Nat.le_of_lt hz_w1_0)
    go_ret
    exact ⟨ret_int HR.out.symm, bel⟩
  · have HR : Hid (foldsAl K W H = Int.tdiv (Int.tdiv 40000 W) 2) := by unfold Hid foldsAl; rw [h]; rfl
    have HP := Lib.hid h
    obtain ⟨hw40, hw400⟩ := paperOk_w h
    have h1 := q_bd hw40
    have h2 : 0 ≤ Int.tdiv (Int.tdiv 40000 W) 2 := Int.tdiv_nonneg h1.1 (by omega)
    have h3 : Int.tdiv (Int.tdiv 40000 W) 2 ≤ 40000 := Int.le_trans (Int.tdiv_le_self _ h1.1) h1.2
    have hw1 : IntKind.i64.wrap (Int.tdiv 40000 W) = Int.tdiv 40000 W := by rw [IntKind.wrap_i64]; omega
    have hw2 : IntKind.i64.wrap (Int.tdiv (Int.tdiv 40000 W) 2) = Int.tdiv (Int.tdiv 40000 W) 2 := by rw [IntKind.wrap_i64]; omega
    have hW0 : ¬ W = 0 := by omega
    have hWm : ¬ W = -1 := by omega
    clear h h1 h2 h3
    go_enter Try.func29, Try.ntmps29
    go_wp2_with (go_at_call 65; refine (s_PaperOk K W H _).mono ?_; rw [HP.out]; rintro e w1 ⟨rfl, hb1⟩; obtain ⟨hcb1, hfb1⟩ := bcell hb1; have hz_w1_0 : w.heap.size < w1.heap.size := (by have hzz := hb1.size; (try simp at hzz); omega); have hy_w1_0 := Nat.le_of_lt hz_w1_0)
    go_ret
    exact ⟨ret_int HR.out.symm, bel⟩
set_option maxHeartbeats 800000 in
theorem i_CopyOk (d f : Int) (B : Nat) (A : Option Addr) (n c : Nat) (ss : List ByteArray) (K W H O : Int) (w : World) (hS : Strs w B A n ss) (hB : B ≤ w.heap.size) :
    Calls Try.prog 31 #[.agg #[.int .i64 d, .int .i64 f, .slice A n c, .int .i64 K, .int .i64 W, .int .i64 H, .int .i64 O]] w fun e w' => e = .returned (.bool (copyOk d f ss K W H O)) ∧ Below w.heap.size w w' := by
  have hS2 := hS.alloc hB (.cells #[.int .i64 d, .int .i64 f, .slice A n c, .int .i64 K, .int .i64 W, .int .i64 H, .int .i64 O] 33)
  have hka := blk_new w (.cells #[.int .i64 d, .int .i64 f, .slice A n c, .int .i64 K, .int .i64 W, .int .i64 H, .int .i64 O] 33)
  cases hc : cardOk d f ss
  · have HR : Hid (copyOk d f ss K W H O = false) := by unfold Hid copyOk; rw [hc]; rfl
    have HC := Lib.hid hc
    clear hc
    go_enter Try.func31, Try.ntmps31
    go_wp2_with (go_at_call 66; refine (i_CardOk _ _ _ _ _ ss _ (hS2.more (by simp; omega))).mono ?_; rw [HC.out]; rintro e w1 ⟨rfl, hb1⟩; obtain ⟨hcb1, hfb1⟩ := bcell hb1; have hz_w1_0 : w.heap.size < w1.heap.size := (by have hzz := hb1.size; (try simp at hzz); omega); have hy_w1_0 := Nat.le_of_lt hz_w1_0; (have hbw1 : Below w.heap.size w w1 := bel))
    go_ret
    exact ⟨ret_bool HR.out.symm, hbw1⟩
  · cases hp : paperOk K W H
    · have HR : Hid (copyOk d f ss K W H O = false) := by unfold Hid copyOk; rw [hc, hp]; rfl
      have HC := Lib.hid hc
      have HP := Lib.hid hp
      clear hc hp
      go_enter Try.func31, Try.ntmps31
      go_wp2_with (first | (go_at_call 66; refine (i_CardOk _ _ _ _ _ ss _ (hS2.more (by simp; omega))).mono ?_; rw [HC.out]; rintro e w1 ⟨rfl, hb1⟩; obtain ⟨hcb1, hfb1⟩ := bcell hb1; have hz_w1_0 : w.heap.size < w1.heap.size := (by have hzz := hb1.size; (try simp at hzz); omega); have hy_w1_0 := Nat.le_of_lt hz_w1_0; (have hbw1 : Below w.heap.size w w1 := bel)) | (go_at_call 67; refine (i_PaperOk K W H _).mono ?_; rw [HP.out]; rintro e w2 ⟨rfl, hb2⟩; (have hbw2 : Below w.heap.size w w2 := hbw1.trans (hb2.mono hbw1.size)); obtain ⟨hx0, hx1, hx2, hx3, hx4, hx5, hx6, hxl⟩ := blk7 (blk_next (blk_next hka hb1) hb2)))
      go_ret
      exact ⟨ret_bool HR.out.symm, hbw2⟩
    · have HR : Hid (copyOk d f ss K W H O = inB O 0 1000000) := by unfold Hid copyOk; rw [hc, hp]; rfl
      have HC := Lib.hid hc
      have HP := Lib.hid hp
      clear hc hp
      go_enter Try.func31, Try.ntmps31
      go_wp2_with (first | (go_at_call 66; refine (i_CardOk _ _ _ _ _ ss _ (hS2.more (by simp; omega))).mono ?_; rw [HC.out]; rintro e w1 ⟨rfl, hb1⟩; obtain ⟨hcb1, hfb1⟩ := bcell hb1; have hz_w1_0 : w.heap.size < w1.heap.size := (by have hzz := hb1.size; (try simp at hzz); omega); have hy_w1_0 := Nat.le_of_lt hz_w1_0; (have hbw1 : Below w.heap.size w w1 := bel)) | (go_at_call 67; refine (i_PaperOk K W H _).mono ?_; rw [HP.out]; rintro e w2 ⟨rfl, hb2⟩; (have hbw2 : Below w.heap.size w w2 := hbw1.trans (hb2.mono hbw1.size)); obtain ⟨hx0, hx1, hx2, hx3, hx4, hx5, hx6, hxl⟩ := blk7 (blk_next (blk_next hka hb1) hb2)) | (go_at_call 40; refine (i_within _ _ _ _).mono ?_; rintro e w' ⟨rfl, rfl⟩))
      go_ret
      exact ⟨ret_bool HR.out.symm, hbw2⟩
set_option maxHeartbeats 800000 in
theorem s_CopyOk (d f : Int) (B : Nat) (A : Option Addr) (n c : Nat) (ss : List ByteArray) (K W H O : Int) (w : World) (hS : Strs w B A n ss) (hB : B ≤ w.heap.size) :
    Calls Try.prog 34 #[.agg #[.int .i64 d, .int .i64 f, .slice A n c, .int .i64 K, .int .i64 W, .int .i64 H, .int .i64 O]] w fun e w' => e = .returned (.bool (copyOk d f ss K W H O)) ∧ Below w.heap.size w w' := by
  have hS2 := hS.alloc hB (.cells #[.int .i64 d, .int .i64 f, .slice A n c, .int .i64 K, .int .i64 W, .int .i64 H, .int .i64 O] 33)
  have hka := blk_new w (.cells #[.int .i64 d, .int .i64 f, .slice A n c, .int .i64 K, .int .i64 W, .int .i64 H, .int .i64 O] 33)
  cases hc : cardOk d f ss
  · have HR : Hid (copyOk d f ss K W H O = false) := by unfold Hid copyOk; rw [hc]; rfl
    have HC := Lib.hid hc
    clear hc
    go_enter Try.func34, Try.ntmps34
    go_wp2_with (go_at_call 70; refine (s_CardOk _ _ _ _ _ ss _ (hS2.more (by simp; omega))).mono ?_; rw [HC.out]; rintro e w1 ⟨rfl, hb1⟩; obtain ⟨hcb1, hfb1⟩ := bcell hb1; have hz_w1_0 : w.heap.size < w1.heap.size := (by have hzz := hb1.size; (try simp at hzz); omega); have hy_w1_0 := Nat.le_of_lt hz_w1_0; (have hbw1 : Below w.heap.size w w1 := bel))
    go_ret
    exact ⟨ret_bool HR.out.symm, hbw1⟩
  · cases hp : paperOk K W H
    · have HR : Hid (copyOk d f ss K W H O = false) := by unfold Hid copyOk; rw [hc, hp]; rfl
      have HC := Lib.hid hc
      have HP := Lib.hid hp
      clear hc hp
      go_enter Try.func34, Try.ntmps34
      go_wp2_with (first | (go_at_call 70; refine (s_CardOk _ _ _ _ _ ss _ (hS2.more (by simp; omega))).mono ?_; rw [HC.out]; rintro e w1 ⟨rfl, hb1⟩; obtain ⟨hcb1, hfb1⟩ := bcell hb1; have hz_w1_0 : w.heap.size < w1.heap.size := (by have hzz := hb1.size; (try simp at hzz); omega); have hy_w1_0 := Nat.le_of_lt hz_w1_0; (have hbw1 : Below w.heap.size w w1 := bel)) | (go_at_call 65; refine (s_PaperOk K W H _).mono ?_; rw [HP.out]; rintro e w2 ⟨rfl, hb2⟩; (have hbw2 : Below w.heap.size w w2 := hbw1.trans (hb2.mono hbw1.size)); obtain ⟨hx0, hx1, hx2, hx3, hx4, hx5, hx6, hxl⟩ := blk7 (blk_next (blk_next hka hb1) hb2)))
      go_ret
      exact ⟨ret_bool HR.out.symm, hbw2⟩
    · have HR : Hid (copyOk d f ss K W H O = inB O 0 1000000) := by unfold Hid copyOk; rw [hc, hp]; rfl
      have HC := Lib.hid hc
      have HP := Lib.hid hp
      clear hc hp
      go_enter Try.func34, Try.ntmps34
      go_wp2_with (first | (go_at_call 70; refine (s_CardOk _ _ _ _ _ ss _ (hS2.more (by simp; omega))).mono ?_; rw [HC.out]; rintro e w1 ⟨rfl, hb1⟩; obtain ⟨hcb1, hfb1⟩ := bcell hb1; have hz_w1_0 : w.heap.size < w1.heap.size := (by have hzz := hb1.size; (try simp at hzz); omega); have hy_w1_0 := Nat.le_of_lt hz_w1_0; (have hbw1 : Below w.heap.size w w1 := bel)) | (go_at_call 65; refine (s_PaperOk K W H _).mono ?_; rw [HP.out]; rintro e w2 ⟨rfl, hb2⟩; (have hbw2 : Below w.heap.size w w2 := hbw1.trans (hb2.mono hbw1.size)); obtain ⟨hx0, hx1, hx2, hx3, hx4, hx5, hx6, hxl⟩ := blk7 (blk_next (blk_next hka hb1) hb2)) | (go_at_call 35; refine (s_l01In _ _ _ _).mono ?_; rintro e w' ⟨rfl, rfl⟩))
      go_ret
      exact ⟨ret_bool HR.out.symm, hbw2⟩
set_option maxHeartbeats 1600000 in
theorem i_weakest (d f : Int) (B : Nat) (A : Option Addr) (n c : Nat) (ss : List ByteArray) (w : World) (hS : Strs w B A n ss) (hB : B ≤ w.heap.size) :
    Calls Try.prog 61 #[.agg #[.int .i64 d, .int .i64 f, .slice A n c]] w fun e w' => ∃ a : Int, e = .returned (.tuple #[.int .i64 a, .int .i64 (mostF ss n)]) ∧ Below w.heap.size w w' := by
  have hn := hS.nb
  have hl := hS.len
  have HL := Lib.hid hl
  have hka := blk_new w (.cells #[.int .i64 d, .int .i64 f, .slice A n c] 30)
  clear hl
  go_enter Try.func61, Try.ntmps61
  go_wp2
  go_loopw [4, 5, 12] (fun a q i wr => ∃ (j : Nat) (x M : Int), j ≤ n ∧ i = .int .i64 j ∧ a = .int .i64 x ∧ q = .int .i64 M ∧ Hid (M = mostF ss j) ∧ Below (w.heap.size + 1) (w.alloc (.cells #[.int .i64 d, .int .i64 f, .slice A n c] 30)) wr) (fun _ _ i _ => n - (intOf i).toNat)
  case atStart => exact ⟨0, 0, -1, Nat.zero_le _, rfl, rfl, rfl, rfl, Below.refl _ _⟩
  case round =>
    obtain ⟨j, x, M, hj, rfl, rfl, rfl, HM, hb⟩ := hrel
    have hkr := blk_below hka hb (by omega)
    have hzr : w.heap.size < wr.heap.size := blk_lt hkr
    have hbw : Below w.heap.size w wr := ((Below.refl _ _).alloc (Nat.le_refl _) _).trans (hb.mono (by omega))
    have hSr := hS.below (hbw.mono hB)
    by_cases hlt : j < n
    · obtain ⟨hk3, ad, rfl, hab, hcw, hsb⟩ := hSr.at_ (k := j) hlt
      by_cases hgt : mostF ss j < foldsOf ss[j]
      · have HS := Lib.hid (mostF_gt hk3 hgt)
        rw [← HM.out] at hgt
        go_wp2_with (go_at_call 83; refine (i_CountFolds _ _ hsb).mono ?_; rintro e w3 ⟨rfl, hb3⟩)
        go_roundw
        case rel => exact ⟨j + 1, (j : Int), _, by omega, by go_num, rfl, rfl, HS.out.symm, hb.trans (Below.mono hb3 (by omega))⟩
        case measure => simp [intOf]; omega
      · have HS := Lib.hid (mostF_le hk3 hgt)
        rw [← HM.out] at hgt
        go_wp2_with (go_at_call 83; refine (i_CountFolds _ _ hsb).mono ?_; rintro e w3 ⟨rfl, hb3⟩)
        go_roundw
        case rel => exact ⟨j + 1, x, M, by omega, by go_num, rfl, rfl, by unfold Hid; rw [HS.out]; exact HM.out, hb.trans (Below.mono hb3 (by omega))⟩
        case measure => simp [intOf]; omega
    · have hjn : j = n := by omega
      have HM2 : Hid (M = mostF ss n) := by unfold Hid; rw [← hjn]; exact HM.out
      clear hjn
      go_wp2
      refine bodyPost_ret (v := .tuple #[.int .i64 x, .int .i64 M]) (by simp [results, Try.results61, go_sem, *]) rfl ?_
      exact ⟨x, by rw [HM2.out], hbw⟩
end Go.Proofs.Ytdddglihomchfaa
