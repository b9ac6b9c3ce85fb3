/- The contracts of WeakestStrip, LifeOf, LeftOf. -/
import Derived.Test.YtdddglihomchfaaWear1
import Derived.Test.YtdddglihomchfaaLawKit2
import Derived.Deep.RegionHeld3
import Derived.Deep.QuietTactic
import Derived.BigQuiet
import Derived.Deep.DeepCutAuto
namespace Go.Proofs.Ytdddglihomchfaa
open Go.ChangeShapes Go.WideShapes Go.ChangeAt Go.RowKit
set_option linter.unusedVariables false
set_option linter.unusedSimpArgs false
set_option maxRecDepth 10000

def lifeOf (d f : Int) (ss : List ByteArray) (K W H O : Int) : Int := if copyOk d f ss K W H O = true then Int.tdiv (foldsAl K W H) (max (mostF ss ss.length) 1) else -1
def leftOf (d f : Int) (ss : List ByteArray) (K W H O : Int) : Int := if copyOk d f ss K W H O = true then max (lifeOf d f ss K W H O - O) 0 else -1
theorem life_bd (K W H M : Int) : 0 ≤ Int.tdiv (foldsAl K W H) (max M 1) ∧ Int.tdiv (foldsAl K W H) (max M 1) ≤ 40000 := by
  have h := foldsAl_bd K W H
  exact ⟨Int.tdiv_nonneg h.1 (by omega), Int.le_trans (Int.tdiv_le_self _ h.1) h.2⟩
theorem lifeOf_no {d f : Int} {ss : List ByteArray} {K W H O : Int} (h : copyOk d f ss K W H O = false) : lifeOf d f ss K W H O = -1 := by unfold lifeOf; rw [h]; rfl
theorem lifeOf_yes {d f : Int} {ss : List ByteArray} {K W H O : Int} (h : copyOk d f ss K W H O = true) : lifeOf d f ss K W H O = Int.tdiv (foldsAl K W H) (max (mostF ss ss.length) 1) := by unfold lifeOf; rw [h]; rfl
theorem leftOf_no {d f : Int} {ss : List ByteArray} {K W H O : Int} (h : copyOk d f ss K W H O = false) : leftOf d f ss K W H O = -1 := by unfold leftOf; rw [h]; rfl
theorem leftOf_yes {d f : Int} {ss : List ByteArray} {K W H O : Int} (h : copyOk d f ss K W H O = true) : leftOf d f ss K W H O = max (lifeOf d f ss K W H O - O) 0 := by unfold leftOf; rw [h]; rfl
theorem copyOk_O {d f : Int} {ss : List ByteArray} {K W H O : Int} (h : copyOk d f ss K W H O = true) : 0 ≤ O ∧ O ≤ 1000000 := by
  unfold copyOk at h
  simp only [Bool.and_eq_true] at h
  exact inB_iff.1 h.2.2
theorem copyOk_len {d f : Int} {ss : List ByteArray} {K W H O : Int} (h : copyOk d f ss K W H O = true) : 1 ≤ ss.length := by
  unfold copyOk at h
  simp only [Bool.and_eq_true] at h
  exact (cardOk_bd h.1).2.2.2.2.1
def wInv (ss : List ByteArray) (j b : Nat) : Prop := (j = 0 ∧ b = 0) ∨ (1 ≤ j ∧ foldsOf (sAt ss b) = mostF ss j)
theorem wInv_gt {ss : List ByteArray} {j b : Nat} (h : wInv ss j b) (hj : j < ss.length) (h2 : foldsOf (sAt ss b) < foldsOf ss[j]) : wInv ss (j + 1) j := by
  refine .inr ⟨by omega, ?_⟩
  rw [sAt_get ss j hj]
  rcases h with ⟨rfl, rfl⟩ | ⟨h1, h3⟩
  · rw [sAt_get ss 0 hj] at h2; omega
  · rw [mostF_gt hj (by rw [← h3]; exact h2)]
theorem wInv_le {ss : List ByteArray} {j b : Nat} (h : wInv ss j b) (hj : j < ss.length) (hs : ∀ x ∈ ss, x.size ≤ 16777216) (h2 : ¬ foldsOf (sAt ss b) < foldsOf ss[j]) : wInv ss (j + 1) b := by
  refine .inr ⟨by omega, ?_⟩
  rcases h with ⟨rfl, rfl⟩ | ⟨h1, h3⟩
  · have hb := foldsOf_bd ss[0] (hs _ (List.getElem_mem hj))
    rw [sAt_get ss 0 hj]
    by_cases hq : (-1 : Int) < foldsOf ss[0]
    · rw [mostF_gt hj hq]
    · rw [mostF_le hj hq]; show foldsOf ss[0] = -1; omega
  · rw [mostF_le hj (by rw [← h3]; exact h2)]; exact h3
set_option maxHeartbeats 1600000 in
theorem s_WeakestStrip_no (d f : Int) (B : Nat) (A : Option Addr) (n c : Nat) (ss : List ByteArray) (K W H O : Int) (w : World) (hS : Strs w B A n ss) (hB : B ≤ w.heap.size) (hc : copyOk d f ss K W H O = false) :
    Calls Try.prog 90 #[.agg #[.int .i64 d, .int .i64 f, .slice A n c, .int .i64 K, .int .i64 W, .int .i64 H, .int .i64 O]] w fun e w' => e = .returned (.int .i64 (-1)) ∧ Below w.heap.size w w' := by
  have HC := Lib.hid hc
  have hka := blk_new w (.cells #[.int .i64 d, .int .i64 f, .slice A n c, .int .i64 K, .int .i64 W, .int .i64 H, .int .i64 O] 33)
  clear hc
  go_enter Try.func90, Try.ntmps90
  go_wp2_with (go_at_call 34; refine (s_CopyOk d f B A n c ss K W H O _ (hS.alloc hB _) (by simp; omega)).mono ?_; rw [HC.out]; rintro e w1 ⟨rfl, hb1⟩; (have hk1 := blk_next hka hb1); obtain ⟨hx0, hx1, hx2, hx3, hx4, hx5, hx6, hxl⟩ := blk7 hk1; (have hbw1 : Below w.heap.size w w1 := ((Below.refl _ _).alloc (Nat.le_refl _) _).trans (hb1.mono (by simp))))
  go_ret
  exact ⟨rfl, hbw1⟩
set_option maxHeartbeats 3200000 in
theorem s_WeakestStrip_yes (d f : Int) (B : Nat) (A : Option Addr) (n c : Nat) (ss : List ByteArray) (K W H O : Int) (w : World) (hS : Strs w B A n ss) (hB : B ≤ w.heap.size) (hc : copyOk d f ss K W H O = true) :
    Calls Try.prog 90 #[.agg #[.int .i64 d, .int .i64 f, .slice A n c, .int .i64 K, .int .i64 W, .int .i64 H, .int .i64 O]] w fun e w' => ∃ b : Nat, b < n ∧ e = .returned (.int .i64 b) ∧ foldsOf (sAt ss b) = mostF ss n ∧ Below w.heap.size w w' := by
  have hn := hS.nb
  have hl := hS.len
  have h1n := copyOk_len hc
  rw [hl] at h1n
  have HL := Lib.hid hl
  have HC := Lib.hid hc
  have hka := blk_new w (.cells #[.int .i64 d, .int .i64 f, .slice A n c, .int .i64 K, .int .i64 W, .int .i64 H, .int .i64 O] 33)
  clear hc hl
  go_enter Try.func90, Try.ntmps90
  go_wp2_with (go_at_call 34; refine (s_CopyOk d f B A n c ss K W H O _ (hS.alloc hB _) (by simp; omega)).mono ?_; rw [HC.out]; rintro e w1 ⟨rfl, hb1⟩; (have hk1 := blk_next hka hb1); obtain ⟨hx0, hx1, hx2, hx3, hx4, hx5, hx6, hxl⟩ := blk7 hk1; (have hbw1 : Below w.heap.size w w1 := ((Below.refl _ _).alloc (Nat.le_refl _) _).trans (hb1.mono (by simp))))
  go_loopw [3, 4] (fun q i wr => ∃ j b : Nat, j ≤ n ∧ b < n ∧ i = .int .i64 j ∧ q = .int .i64 b ∧ Hid (wInv ss j b) ∧ Below w1.heap.size w1 wr) (fun _ i _ => n - (intOf i).toNat)
  case atStart => exact ⟨0, 0, Nat.zero_le _, by omega, rfl, rfl, .inl ⟨rfl, rfl⟩, Below.refl _ _⟩
  case round =>
    obtain ⟨j, b, hj, hbn, rfl, rfl, HI, hb⟩ := hrel
    have hbs := hb.size
    have hkr := blk_next hk1 hb
    have hbwr : Below w.heap.size w wr := hbw1.trans (hb.mono hbw1.size)
    have hzr : w.heap.size < wr.heap.size := blk_lt hkr
    clear hx0 hx1 hx2 hx3 hx4 hx5 hx6 hxl
    obtain ⟨hx0, hx1, hx2, hx3, hx4, hx5, hx6, hxl⟩ := blk7 hkr
    have hSr := hS.below (hbwr.mono hB)
    by_cases hlt : j < n
    · obtain ⟨hk3, ad, rfl, hab, hcw, hsb⟩ := hSr.at_ (k := j) hlt
      obtain ⟨hk4, ad', hade, hab', hcw', hsb'⟩ := hSr.at_ (k := b) hbn
      injection hade with hade
      subst hade
      have hsa := sAt_get ss b hk4
      have tok1 : True := trivial
      have hq1 : (ad.add j).block < wr.heap.size := by rw [block_of_add]; omega
      have hq2 : (ad.add b).block < wr.heap.size := by rw [block_of_add]; omega
      have hi1 : (j : Int) < (n : Int) := by omega
      have hi2 : (b : Int) < (n : Int) := by omega
      have hi3 : (0 : Int) ≤ (b : Int) := Int.natCast_nonneg _
      have hi4 : (0 : Int) ≤ (j : Int) := Int.natCast_nonneg _
      by_cases hgt : foldsOf ss[b] < foldsOf ss[j]
      · have HS := Lib.hid (wInv_gt HI.out hk3 (by rw [hsa]; exact hgt))
        clear hsa
        go_wp2_with fail
        go_region_held3 (fun W => (∀ p : Addr, p.block < wr.heap.size → W.cell? p = (wr).cell? p) ∧ (∀ p : Addr, p.block < wr.heap.size → W.frozen? p = (wr).frozen? p) ∧ Below (wr.heap.size) (wr) W) (exact keep_ofP bel) (first | (go_at_call 27; have _t := tok1; have hq := (‹_ ∧ _ ∧ Below _ _ _›).2.2; refine (s_CountFolds _ _ hsb).mono ?_; rintro e w3 ⟨rfl, hb3⟩; clear _t tok1; have hqs3 := hq.size; have hbs3 := hb3.size; (try simp at hqs3); (try simp at hbs3)) | (go_at_call 27; have hq := (‹_ ∧ _ ∧ Below _ _ _›).2.2; refine (s_CountFolds _ _ hsb').mono ?_; rintro e w4 ⟨rfl, hb4⟩; have hqs4 := hq.size; have hbs4 := hb4.size; (try simp at hqs4); (try simp at hbs4)))
        all_goals (
          go_wp2
          go_roundw
          case rel => exact ⟨j + 1, j, by omega, hlt, by go_num, rfl, HS.out, hb.trans (Below.mono (by first | exact bel) hbs)⟩
          case measure => simp [intOf]; omega)
      · have HS := Lib.hid (wInv_le HI.out hk3 hS.sb (by rw [hsa]; exact hgt))
        clear hsa
        go_wp2_with fail
        go_region_held3 (fun W => (∀ p : Addr, p.block < wr.heap.size → W.cell? p = (wr).cell? p) ∧ (∀ p : Addr, p.block < wr.heap.size → W.frozen? p = (wr).frozen? p) ∧ Below (wr.heap.size) (wr) W) (exact keep_ofP bel) (first | (go_at_call 27; have _t := tok1; have hq := (‹_ ∧ _ ∧ Below _ _ _›).2.2; refine (s_CountFolds _ _ hsb).mono ?_; rintro e w3 ⟨rfl, hb3⟩; clear _t tok1; have hqs3 := hq.size; have hbs3 := hb3.size; (try simp at hqs3); (try simp at hbs3)) | (go_at_call 27; have hq := (‹_ ∧ _ ∧ Below _ _ _›).2.2; refine (s_CountFolds _ _ hsb').mono ?_; rintro e w4 ⟨rfl, hb4⟩; have hqs4 := hq.size; have hbs4 := hb4.size; (try simp at hqs4); (try simp at hbs4)))
        all_goals (
          go_wp2
          go_roundw
          case rel => exact ⟨j + 1, b, by omega, hbn, by go_num, rfl, HS.out, hb.trans (Below.mono (by first | exact bel) hbs)⟩
          case measure => simp [intOf]; omega)
    · have hjn : j = n := by omega
      have HF : Hid (foldsOf (sAt ss b) = mostF ss n) := by
        unfold Hid
        rcases HI.out with ⟨h1, h2⟩ | ⟨h1, h2⟩
        · omega
        · rw [← hjn]; exact h2
      clear hjn
      go_wp2
      go_ret
      exact ⟨b, hbn, rfl, HF.out, hbwr⟩
set_option maxHeartbeats 1600000 in
theorem i_LifeOf (d f : Int) (B : Nat) (A : Option Addr) (n c : Nat) (ss : List ByteArray) (K W H O : Int) (w : World) (hS : Strs w B A n ss) (hB : B ≤ w.heap.size) :
    Calls Try.prog 24 #[.agg #[.int .i64 d, .int .i64 f, .slice A n c, .int .i64 K, .int .i64 W, .int .i64 H, .int .i64 O]] w fun e w' => e = .returned (.int .i64 (lifeOf d f ss K W H O)) ∧ Below w.heap.size w w' := by
  have hl := hS.len
  have hka := blk_new w (.cells #[.int .i64 d, .int .i64 f, .slice A n c, .int .i64 K, .int .i64 W, .int .i64 H, .int .i64 O] 33)
  cases hc : copyOk d f ss K W H O
  · have HR := Lib.hid (lifeOf_no hc)
    have HC := Lib.hid hc
    clear hc
    go_enter Try.func24, Try.ntmps24
    go_wp2_with (go_at_call 31; refine (i_CopyOk d f B A n c ss K W H O _ (hS.alloc hB _) (by simp; omega)).mono ?_; rw [HC.out]; rintro e w1 ⟨rfl, hb1⟩; (have hk1 := blk_next hka hb1); obtain ⟨hx0, hx1, hx2, hx3, hx4, hx5, hx6, hxl⟩ := blk7 hk1; (have hbw1 : Below w.heap.size w w1 := ((Below.refl _ _).alloc (Nat.le_refl _) _).trans (hb1.mono (by simp))))
    go_ret
    exact ⟨ret_int HR.out.symm, hbw1⟩
  · have HR := Lib.hid (lifeOf_yes hc)
    have HC := Lib.hid hc
    have hlb := life_bd K W H (mostF ss n)
    rw [hl] at HR
    have hww := fun (W2 : World) (h : Strs W2 B A n ss) (hb : B ≤ W2.heap.size) => i_weakest d f B A n c ss W2 h hb
    generalize mostF ss n = M at *
    have HW := hide hww
    have hm0 : ¬ max M 1 = 0 := by omega
    have hm1 : ¬ max M 1 = -1 := by omega
    have hw1 : IntKind.i64.wrap (Int.tdiv (foldsAl K W H) (max M 1)) = Int.tdiv (foldsAl K W H) (max M 1) := by rw [IntKind.wrap_i64]; omega
    clear hc hl hww hlb
    go_enter Try.func24, Try.ntmps24
    go_wp2_with (first | (go_at_call 31; refine (i_CopyOk d f B A n c ss K W H O _ (hS.alloc hB _) (by simp; omega)).mono ?_; rw [HC.out]; rintro e w1 ⟨rfl, hb1⟩; (have hk1 := blk_next hka hb1); obtain ⟨hx0, hx1, hx2, hx3, hx4, hx5, hx6, hxl⟩ := blk7 hk1; (have hbw1 : Below w.heap.size w w1 := ((Below.refl _ _).alloc (Nat.le_refl _) _).trans (hb1.mono (by simp)))) | (go_at_call 61; refine (unhide HW _ (hS.below (hbw1.mono hB)) (Nat.le_trans hB hbw1.size)).mono ?_; rintro e w2 ⟨x, rfl, hb2⟩; (have hbw2 : Below w.heap.size w w2 := hbw1.trans (hb2.mono hbw1.size)); (have hk2 := blk_next hk1 hb2); obtain ⟨hy0, hy1, hy2, hy3, hy4, hy5, hy6, hyl⟩ := blk7 hk2) | (go_at_call 62; refine (i_FoldsAllowed K W H _).mono ?_; rintro e w3 ⟨rfl, hb3⟩; (have hbw3 : Below w.heap.size w w3 := hbw2.trans (hb3.mono hbw2.size))))
    go_ret
    exact ⟨ret_int HR.out.symm, hbw3⟩
set_option maxHeartbeats 1600000 in
theorem s_LifeOf (d f : Int) (B : Nat) (A : Option Addr) (n c : Nat) (ss : List ByteArray) (K W H O : Int) (w : World) (hS : Strs w B A n ss) (hB : B ≤ w.heap.size) :
    Calls Try.prog 71 #[.agg #[.int .i64 d, .int .i64 f, .slice A n c, .int .i64 K, .int .i64 W, .int .i64 H, .int .i64 O]] w fun e w' => e = .returned (.int .i64 (lifeOf d f ss K W H O)) ∧ Below w.heap.size w w' := by
  have hl := hS.len
  have hka := blk_new w (.cells #[.int .i64 d, .int .i64 f, .slice A n c, .int .i64 K, .int .i64 W, .int .i64 H, .int .i64 O] 33)
  cases hc : copyOk d f ss K W H O
  · have HR := Lib.hid (lifeOf_no hc)
    have HC := Lib.hid hc
    clear hc
    go_enter Try.func71, Try.ntmps71
    go_wp2_with (go_at_call 90; refine (s_WeakestStrip_no d f B A n c ss K W H O _ (hS.alloc hB _) (by simp; omega) HC.out).mono ?_; rintro e w1 ⟨rfl, hb1⟩; (have hbw1 : Below w.heap.size w w1 := ((Below.refl _ _).alloc (Nat.le_refl _) _).trans (hb1.mono (by simp))))
    go_ret
    exact ⟨ret_int HR.out.symm, hbw1⟩
  · have HR := Lib.hid (lifeOf_yes hc)
    have HC := Lib.hid hc
    have hlb := life_bd K W H (mostF ss n)
    rw [hl] at HR
    have hm0 : ¬ max 1 (mostF ss n) = 0 := by omega
    have hm1 : ¬ max 1 (mostF ss n) = -1 := by omega
    have hmc : max (mostF ss n) 1 = max 1 (mostF ss n) := by omega
    rw [hmc] at hlb HR
    have hw1 : IntKind.i64.wrap (Int.tdiv (foldsAl K W H) (max 1 (mostF ss n))) = Int.tdiv (foldsAl K W H) (max 1 (mostF ss n)) := by rw [IntKind.wrap_i64]; omega
    clear hc hl hlb hmc
    go_enter Try.func71, Try.ntmps71
    go_wp2_with (go_at_call 90; refine (s_WeakestStrip_yes d f B A n c ss K W H O _ (hS.alloc hB _) (by simp; omega) HC.out).mono ?_; rintro e w1 ⟨b, hbn, rfl, hfb, hb1⟩; (have hbw1 : Below w.heap.size w w1 := ((Below.refl _ _).alloc (Nat.le_refl _) _).trans (hb1.mono (by simp))); (have hk1 := blk_next hka hb1); obtain ⟨hx0, hx1, hx2, hx3, hx4, hx5, hx6, hxl⟩ := blk7 hk1)
    have hSr := hS.below (hbw1.mono hB)
    have hzw := hbw1.size
    obtain ⟨hk4, ad, rfl, hab, hcw, hsb⟩ := hSr.at_ (k := b) hbn
    rw [sAt_get ss b hk4] at hfb
    have HFB := Lib.hid hfb
    clear hfb
    have hq2 : (ad.add b).block < w1.heap.size := by rw [block_of_add]; omega
    have hi2 : (b : Int) < (n : Int) := by omega
    have hi3 : (0 : Int) ≤ (b : Int) := Int.natCast_nonneg _
    go_region_held3 (fun W => (∀ p : Addr, p.block < w1.heap.size → W.cell? p = (w1).cell? p) ∧ (∀ p : Addr, p.block < w1.heap.size → W.frozen? p = (w1).frozen? p) ∧ Below (w1.heap.size) (w1) W) (exact keep_ofP bel) (first | (go_at_call 29; have hq := (‹_ ∧ _ ∧ Below _ _ _›).2.2; refine (s_FoldsAllowed K W H _).mono ?_; rintro e w3 ⟨rfl, hb3⟩; have hqs3 := hq.size; have hbs3 := hb3.size; (try simp at hqs3); (try simp at hbs3)) | (go_at_call 27; have hq := (‹_ ∧ _ ∧ Below _ _ _›).2.2; refine (s_CountFolds _ _ hsb).mono ?_; rintro e w4 ⟨rfl, hb4⟩; rw [HFB.out]; have hqs4 := hq.size; have hbs4 := hb4.size; (try simp at hqs4); (try simp at hbs4)))
    all_goals (
      go_wp2
      go_ret
      exact ⟨ret_int HR.out.symm, hbw1.trans (Below.mono (by first | exact bel) hzw)⟩)
set_option maxHeartbeats 1600000 in
theorem i_LeftOf (d f : Int) (B : Nat) (A : Option Addr) (n c : Nat) (ss : List ByteArray) (K W H O : Int) (w : World) (hS : Strs w B A n ss) (hB : B ≤ w.heap.size) :
    Calls Try.prog 25 #[.agg #[.int .i64 d, .int .i64 f, .slice A n c, .int .i64 K, .int .i64 W, .int .i64 H, .int .i64 O]] w fun e w' => e = .returned (.int .i64 (leftOf d f ss K W H O)) ∧ Below w.heap.size w w' := by
  have hka := blk_new w (.cells #[.int .i64 d, .int .i64 f, .slice A n c, .int .i64 K, .int .i64 W, .int .i64 H, .int .i64 O] 33)
  cases hc : copyOk d f ss K W H O
  · have HR := Lib.hid (leftOf_no hc)
    have HC := Lib.hid hc
    clear hc
    go_enter Try.func25, Try.ntmps25
    go_wp2_with (go_at_call 31; refine (i_CopyOk d f B A n c ss K W H O _ (hS.alloc hB _) (by simp; omega)).mono ?_; rw [HC.out]; rintro e w1 ⟨rfl, hb1⟩; (have hk1 := blk_next hka hb1); obtain ⟨hx0, hx1, hx2, hx3, hx4, hx5, hx6, hxl⟩ := blk7 hk1; (have hbw1 : Below w.heap.size w w1 := ((Below.refl _ _).alloc (Nat.le_refl _) _).trans (hb1.mono (by simp))))
    go_ret
    exact ⟨ret_int HR.out.symm, hbw1⟩
  · have HR := Lib.hid (leftOf_yes hc)
    have HC := Lib.hid hc
    have hO := copyOk_O hc
    have hlb := life_bd K W H (mostF ss ss.length)
    have hli := lifeOf_yes hc
    rw [← hli] at hlb
    have hlf := fun (W2 : World) (h : Strs W2 B A n ss) (hb : B ≤ W2.heap.size) => i_LifeOf d f B A n c ss K W H O W2 h hb
    clear hli
    generalize lifeOf d f ss K W H O = Q at *
    have HLF := hide hlf
    have hw1 : IntKind.i64.wrap (Q - O) = Q - O := by rw [IntKind.wrap_i64]; omega
    clear hc hlf hlb
    go_enter Try.func25, Try.ntmps25
    go_wp2_with (go_at_call 31; refine (i_CopyOk d f B A n c ss K W H O _ (hS.alloc hB _) (by simp; omega)).mono ?_; rw [HC.out]; rintro e w1 ⟨rfl, hb1⟩; (have hk1 := blk_next hka hb1); obtain ⟨hx0, hx1, hx2, hx3, hx4, hx5, hx6, hxl⟩ := blk7 hk1; (have hbw1 : Below w.heap.size w w1 := ((Below.refl _ _).alloc (Nat.le_refl _) _).trans (hb1.mono (by simp))))
    have hSr := hS.below (hbw1.mono hB)
    have hBw := Nat.le_trans hB hbw1.size
    have hzw := hbw1.size
    go_region_held3 (fun W => (∀ b o, b < w1.heap.size → W.cell? ⟨b, o, none⟩ = (w1).cell? ⟨b, o, none⟩) ∧ (∀ b o, b < w1.heap.size → W.frozen? ⟨b, o, none⟩ = (w1).frozen? ⟨b, o, none⟩) ∧ Below (w1.heap.size) (w1) W) (exact keep_of bel) (first | (go_at_call 24; have hq := (‹_ ∧ _ ∧ Below _ _ _›).2.2; refine (unhide HLF _ ?_ ?_).mono ?_; exact hSr.below (hq.mono hBw); exact Nat.le_trans hBw hq.size; rintro e w3 ⟨rfl, hb3⟩; have hqs3 := hq.size; have hbs3 := hb3.size; (try simp at hqs3); (try simp at hbs3)))
    all_goals (
      go_wp2
      go_ret
      exact ⟨ret_int HR.out.symm, hbw1.trans (Below.mono (by first | exact bel) hzw)⟩)
set_option maxHeartbeats 1600000 in
theorem s_LeftOf (d f : Int) (B : Nat) (A : Option Addr) (n c : Nat) (ss : List ByteArray) (K W H O : Int) (w : World) (hS : Strs w B A n ss) (hB : B ≤ w.heap.size) :
    Calls Try.prog 36 #[.agg #[.int .i64 d, .int .i64 f, .slice A n c, .int .i64 K, .int .i64 W, .int .i64 H, .int .i64 O]] w fun e w' => e = .returned (.int .i64 (leftOf d f ss K W H O)) ∧ Below w.heap.size w w' := by
  have hka := blk_new w (.cells #[.int .i64 d, .int .i64 f, .slice A n c, .int .i64 K, .int .i64 W, .int .i64 H, .int .i64 O] 33)
  have hlf := fun (W2 : World) (h : Strs W2 B A n ss) (hb : B ≤ W2.heap.size) => s_LifeOf d f B A n c ss K W H O W2 h hb
  cases hc : copyOk d f ss K W H O
  · have HR := Lib.hid (leftOf_no hc)
    rw [lifeOf_no hc] at hlf
    have HLF := hide hlf
    clear hc hlf
    go_enter Try.func36, Try.ntmps36
    go_wp2_with (go_at_call 71; refine (unhide HLF _ (hS.alloc hB _) (by simp; omega)).mono ?_; rintro e w1 ⟨rfl, hb1⟩; (have hbw1 : Below w.heap.size w w1 := ((Below.refl _ _).alloc (Nat.le_refl _) _).trans (hb1.mono (by simp))))
    go_ret
    exact ⟨ret_int HR.out.symm, hbw1⟩
  · have HR := Lib.hid (leftOf_yes hc)
    have hO := copyOk_O hc
    have hlb := life_bd K W H (mostF ss ss.length)
    have hli := lifeOf_yes hc
    rw [← hli] at hlb
    clear hli
    generalize lifeOf d f ss K W H O = Q at *
    have HLF := hide hlf
    have hq0 : ¬ Q < 0 := by omega
    have hw1 : IntKind.i64.wrap (Q - O) = Q - O := by rw [IntKind.wrap_i64]; omega
    have HMC : Hid (max (Q - O) 0 = max 0 (Q - O)) := by unfold Hid; omega
    clear hc hlf hlb
    go_enter Try.func36, Try.ntmps36
    go_wp2_with (go_at_call 71; refine (unhide HLF _ (hS.alloc hB _) (by simp; omega)).mono ?_; rintro e w1 ⟨rfl, hb1⟩; (have hbw1 : Below w.heap.size w w1 := ((Below.refl _ _).alloc (Nat.le_refl _) _).trans (hb1.mono (by simp))); (have hk1 := blk_next hka hb1); obtain ⟨hx0, hx1, hx2, hx3, hx4, hx5, hx6, hxl⟩ := blk7 hk1)
    go_ret
    exact ⟨ret_int (by rw [HR.out, HMC.out]), hbw1⟩
end Go.Proofs.Ytdddglihomchfaa
