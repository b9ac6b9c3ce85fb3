/- Contracts of the program's and the reference's functions (LawKit, LawKit2, Card4, Card5, Rows1, Lift0, Lift, LawBox, RowBox, LawStep, Rows2, LawKit3, Frame, UCard, SzKit, RowStep, LawPaper, RowPaper, Mem3). -/
import Derived.Deep.RegionLaw
import Derived.Deep.Slices
import Derived.HandedShaped
import Derived.Laws.OwnMore
import Derived.Lib.SmallJoins
import Derived.OpenShut
import Derived.ProofKit
import Derived.SliceStrings
import Derived.WalkKit
import Derived.WalkSmall
import Derived.Test.YtlimlolciekimaaGreatDoorRows
import Derived.Test.YtlimlolciekimaaGreatDoorQFa
namespace Go.Proofs.YtlimlolciekimaaGreatDoor
open Go.ChangeShapes Go.WideShapes Go.ChangeAt Go.RowKit
set_option linter.unusedVariables false
set_option maxRecDepth 10000
theorem blk_next {g : Nat} {w w' : World} {o : Obj} (h : w.heap[g]? = some o) (hb : Below w.heap.size w w') : w'.heap[g]? = some o := blk_below h hb (blk_lt h)
theorem blk3 {w : World} {g : Nat} {t : TypeId} {a b c : Value} (h : w.heap[g]? = some (.cells #[a, b, c] t (0, 0))) :
    w.cell? ⟨g, 0, none⟩ = some a ∧ w.cell? ⟨g, 1, none⟩ = some b ∧ w.cell? ⟨g, 2, none⟩ = some c ∧ g < w.heap.size :=
  ⟨(blk_cells h 0).1, (blk_cells h 1).1, (blk_cells h 2).1, blk_lt h⟩
theorem l_eqCard_args (d f : Int) (B : Nat) (A1 A2 : Option Addr) (n1 n2 c1 c2 : Nat) (ss : List ByteArray) (w : World) (h1 : Strs w B A1 n1 ss) (h2 : Strs w B A2 n2 ss) (hB : B ≤ w.heap.size) :
    Calls Tryz.prog 102 #[.agg #[.int .i64 d, .int .i64 f, .slice A1 n1 c1], .agg #[.int .i64 d, .int .i64 f, .slice A2 n2 c2]] w fun e w' => e = .returned (.bool true) ∧ Below w.heap.size w w' := by
  refine (l_eqCard B d f d f A1 A2 n1 n2 c1 c2 ss ss w h1 h2 hB).mono ?_
  rintro e w' ⟨rfl, hb⟩
  exact ⟨ret_bool (by simp [eqSS]), hb⟩
end Go.Proofs.YtlimlolciekimaaGreatDoor
namespace Go.Proofs.YtlimlolciekimaaGreatDoor
open Go.ChangeShapes Go.WideShapes Go.ChangeAt Go.RowKit
set_option linter.unusedVariables false
set_option maxRecDepth 10000
theorem own_base {w : World} {base base' : Nat} {e : TypeId} {size : Nat} {v : Value} {n : Nat} {xs : List Value} (h : w.ownsRow base e size v n xs) (hb : base' ≤ base) : w.ownsRow base' e size v n xs :=
  own_up h (Upper.refl _ _) hb
theorem blk_new_at (W : World) (o : Obj) {k : Nat} (hk : W.heap.size = k) : (W.alloc o).heap[k]? = some o := by subst hk; exact blk_new W o
theorem own_setvar {w : World} {base g i : Nat} {e t : TypeId} {v : Value} {n : Nat} {xs : List Value} {cs : Array Value} (h : w.ownsRow base e 1 v n xs) (hk : w.heap[g]? = some (.cells cs t (0, 0))) (hne : e ≠ t) (u : Value) :
    (w.setCell ⟨g, i, none⟩ u).ownsRow base e 1 v n xs := by
  have hg : w.grownBy (w.setCell ⟨g, i, none⟩ u) (some g) := only_setCell (World.grownBy.refl w _) (.inl rfl) u
  refine h.kept hg ?_
  rcases h.2 with ⟨rfl, _⟩ | ⟨g', cap, cur, rfl, _, hh, _⟩
  · exact .inl rfl
  · refine .inr ?_
    intro he
    have : g' = g := by simpa [Value.ownBlock] using he
    subst this
    rw [hk] at hh
    injection hh with hh
    injection hh with _ h2
    exact hne h2.symm
theorem blk3_set {w : World} {g : Nat} {t : TypeId} {z0 z1 z2 : Value} (h : w.heap[g]? = some (.cells #[z0, z1, z2] t (0, 0))) (a b c : Value) :
    (((w.setCell ⟨g, 0, none⟩ a).setCell ⟨g, 1, none⟩ b).setCell ⟨g, 2, none⟩ c).heap[g]? = some (.cells #[a, b, c] t (0, 0)) := by
  have := blk_set (blk_set (blk_set h 0 a) 1 b) 2 c
  simpa using this
theorem own3_set {w : World} {base g : Nat} {e t : TypeId} {v : Value} {n : Nat} {xs : List Value} {z0 z1 z2 : Value} (h : w.ownsRow base e 1 v n xs) (hk : w.heap[g]? = some (.cells #[z0, z1, z2] t (0, 0))) (hne : e ≠ t) (a b c : Value) :
    (((w.setCell ⟨g, 0, none⟩ a).setCell ⟨g, 1, none⟩ b).setCell ⟨g, 2, none⟩ c).ownsRow base e 1 v n xs :=
  own_setvar (own_setvar (own_setvar h hk hne a) (blk_set hk 0 a) hne b) (blk_set (blk_set hk 0 a) 1 b) hne c
theorem blk4 {w : World} {g : Nat} {t : TypeId} {a0 a1 a2 a3 : Value} (h : w.heap[g]? = some (.cells #[a0, a1, a2, a3] t (0, 0))) :
    w.cell? ⟨g, 0, none⟩ = some a0 ∧ w.cell? ⟨g, 1, none⟩ = some a1 ∧ w.cell? ⟨g, 2, none⟩ = some a2 ∧ w.cell? ⟨g, 3, none⟩ = some a3 ∧ g < w.heap.size :=
  ⟨(blk_cells h 0).1, (blk_cells h 1).1, (blk_cells h 2).1, (blk_cells h 3).1, blk_lt h⟩
theorem blk7 {w : World} {g : Nat} {t : TypeId} {a0 a1 a2 a3 a4 a5 a6 : Value} (h : w.heap[g]? = some (.cells #[a0, a1, a2, a3, a4, a5, a6] t (0, 0))) :
    w.cell? ⟨g, 0, none⟩ = some a0 ∧ w.cell? ⟨g, 1, none⟩ = some a1 ∧ w.cell? ⟨g, 2, none⟩ = some a2 ∧ w.cell? ⟨g, 3, none⟩ = some a3 ∧ w.cell? ⟨g, 4, none⟩ = some a4 ∧ w.cell? ⟨g, 5, none⟩ = some a5 ∧ w.cell? ⟨g, 6, none⟩ = some a6 ∧ g < w.heap.size :=
  ⟨(blk_cells h 0).1, (blk_cells h 1).1, (blk_cells h 2).1, (blk_cells h 3).1, (blk_cells h 4).1, (blk_cells h 5).1, (blk_cells h 6).1, blk_lt h⟩
theorem blk10 {w : World} {g : Nat} {t : TypeId} {a0 a1 a2 a3 a4 a5 a6 a7 a8 a9 : Value} (h : w.heap[g]? = some (.cells #[a0, a1, a2, a3, a4, a5, a6, a7, a8, a9] t (0, 0))) :
    w.cell? ⟨g, 0, none⟩ = some a0 ∧ w.cell? ⟨g, 1, none⟩ = some a1 ∧ w.cell? ⟨g, 2, none⟩ = some a2 ∧ w.cell? ⟨g, 3, none⟩ = some a3 ∧ w.cell? ⟨g, 4, none⟩ = some a4 ∧ w.cell? ⟨g, 5, none⟩ = some a5 ∧ w.cell? ⟨g, 6, none⟩ = some a6 ∧ w.cell? ⟨g, 7, none⟩ = some a7 ∧ w.cell? ⟨g, 8, none⟩ = some a8 ∧ w.cell? ⟨g, 9, none⟩ = some a9 ∧ g < w.heap.size :=
  ⟨(blk_cells h 0).1, (blk_cells h 1).1, (blk_cells h 2).1, (blk_cells h 3).1, (blk_cells h 4).1, (blk_cells h 5).1, (blk_cells h 6).1, (blk_cells h 7).1, (blk_cells h 8).1, (blk_cells h 9).1, blk_lt h⟩
theorem sz_ub (ss : List ByteArray) (l : Int) (h : l ≤ 1048576) : szStrs ss l ≤ 1048576 := by
  unfold szStrs; split <;> omega
theorem strs_of_szl {W : World} {A : Option Addr} {n : Nat} {ss : List ByteArray} {l : Int} (hR : Reads W W.heap.size 1 A n (ss.map Value.string)) (hl1 : l ≤ 1048576) (hz : 0 ≤ szStrs ss l) : Strs W W.heap.size A n ss ∧ n ≤ 1048576 := by
  have hl : ss.length = n := by have := hR.1; simpa using this
  unfold szStrs at hz
  split at hz
  · omega
  · exact ⟨⟨hR, by omega, fun s hs => by have := tot_mem hs; omega⟩, by omega⟩
end Go.Proofs.YtlimlolciekimaaGreatDoor
namespace Go.Proofs.YtlimlolciekimaaGreatDoor
open Go.ChangeShapes Go.WideShapes Go.ChangeAt Go.RowKit
set_option linter.unusedVariables false
set_option maxHeartbeats 800000 in
theorem s_WithStrip (d f : Int) (B : Nat) (A : Option Addr) (n c : Nat) (ss : List ByteArray) (k : Int) (s : ByteArray) (w : World) (hS : Strs w B A n ss) (hB : B ≤ w.heap.size) (hs : s.size ≤ 16777216) :
    Calls Tryz.prog 248 #[.agg #[.int .i64 d, .int .i64 f, .slice A n c], .int .i64 k, .string s] w (FreshCardB w.heap.size d f (putAt d f ss k s).1 (putAt d f ss k s).2 w) := by
  have hn := hS.nb
  have hl := hS.len
  have hS2 := (hS.alloc hB (.cells #[.int .i64 d, .int .i64 f, .slice A n c] 26)).alloc (by simp; omega) (.cells #[.int .i64 0, .int .i64 0, .slice none 0 0] 26)
  have HL := Lib.hid hl
  cases hh : (cardOk d f ss && inB k 0 ((n : Int) - 1))
  · have HP : Hid (putAt d f ss k s = (ss, false)) := by unfold Hid putAt; rw [hl, hh]; rfl
    clear hl
    cases hc0 : cardOk d f ss
    · clear hh
      go_enter Tryz.func248, Tryz.ntmps248
      go_wp2_with (first | (go_at_call 181; refine (s_l05Copy _ _ B _ _ _ ss _ hS2 (by simp; omega)).mono ?_; rintro e w1 ⟨A1, c1, rfl, ho1, hb1⟩; obtain ⟨hcb, hfb⟩ := bcell hb1; have hz_w1_0 : w.heap.size < w1.heap.size := (by have hzz := hb1.size; (try simp at hzz); omega); have hy_w1_0 := Nat.le_of_lt hz_w1_0; have hz_w1_1 : w.heap.size + 1 < w1.heap.size := (by have hzz := hb1.size; (try simp at hzz); omega); have hy_w1_1 := Nat.le_of_lt hz_w1_1; have hS3 := hS2.below (hb1.mono (by simp; omega))) | (go_at_call 97; refine (s_CardOk _ _ _ _ _ ss _ ((hS3.alloc (by omega) _).more (by simp; omega))).mono ?_; rintro e w2 ⟨rfl, hb2⟩; obtain ⟨hcb2, hfb2⟩ := bcell hb2; have hz_w2_0 : w.heap.size < w2.heap.size := (by have hzz := hb2.size; (try simp at hzz); omega); have hy_w2_0 := Nat.le_of_lt hz_w2_0; have hz_w2_1 : w.heap.size + 1 < w2.heap.size := (by have hzz := hb2.size; (try simp at hzz); omega); have hy_w2_1 := Nat.le_of_lt hz_w2_1) | (go_at_call 95; refine (s_l01In _ _ _ _).mono ?_; rintro e w' ⟨rfl, rfl⟩))
      refine bodyPost_ret (v := .tuple #[.agg #[.int .i64 d, .int .i64 f, .slice A1 ss.length c1], .bool false]) (by simp [results, Tryz.results248, go_sem, *]) rfl ?_
      rw [HP.out]
      exact ⟨A1, c1, rfl, own_up ho1 upr (by first | exact Nat.le_refl _ | (simp; done) | omega | (simp; omega) | exact (‹_ ∧ _ ∧ Below _ _ _›).2.2.size), bel⟩
    · have hk : inB k 0 ((n : Int) - 1) = false := by simpa [hc0] using hh
      clear hh
      go_enter Tryz.func248, Tryz.ntmps248
      go_wp2_with (first | (go_at_call 181; refine (s_l05Copy _ _ B _ _ _ ss _ hS2 (by simp; omega)).mono ?_; rintro e w1 ⟨A1, c1, rfl, ho1, hb1⟩; obtain ⟨hcb, hfb⟩ := bcell hb1; have hz_w1_0 : w.heap.size < w1.heap.size := (by have hzz := hb1.size; (try simp at hzz); omega); have hy_w1_0 := Nat.le_of_lt hz_w1_0; have hz_w1_1 : w.heap.size + 1 < w1.heap.size := (by have hzz := hb1.size; (try simp at hzz); omega); have hy_w1_1 := Nat.le_of_lt hz_w1_1; have hS3 := hS2.below (hb1.mono (by simp; omega))) | (go_at_call 97; refine (s_CardOk _ _ _ _ _ ss _ ((hS3.alloc (by omega) _).more (by simp; omega))).mono ?_; rintro e w2 ⟨rfl, hb2⟩; obtain ⟨hcb2, hfb2⟩ := bcell hb2; have hz_w2_0 : w.heap.size < w2.heap.size := (by have hzz := hb2.size; (try simp at hzz); omega); have hy_w2_0 := Nat.le_of_lt hz_w2_0; have hz_w2_1 : w.heap.size + 1 < w2.heap.size := (by have hzz := hb2.size; (try simp at hzz); omega); have hy_w2_1 := Nat.le_of_lt hz_w2_1) | (go_at_call 95; refine (s_l01In _ _ _ _).mono ?_; rintro e w' ⟨rfl, rfl⟩))
      refine bodyPost_ret (v := .tuple #[.agg #[.int .i64 d, .int .i64 f, .slice A1 ss.length c1], .bool false]) (by simp [results, Tryz.results248, go_sem, *]) rfl ?_
      rw [HP.out]
      exact ⟨A1, c1, rfl, own_up ho1 upr (by first | exact Nat.le_refl _ | (simp; done) | omega | (simp; omega) | exact (‹_ ∧ _ ∧ Below _ _ _›).2.2.size), bel⟩
  · obtain ⟨hck, hk⟩ : cardOk d f ss = true ∧ inB k 0 ((n : Int) - 1) = true := by simpa using hh
    obtain ⟨hk0, hk1⟩ := inB_iff.1 hk
    obtain ⟨K, rfl⟩ := Int.eq_ofNat_of_zero_le hk0
    have hKn : K < n := by omega
    have hsb : ∀ x ∈ ss.set K s, x.size ≤ 16777216 := by
      intro x hx
      rcases List.mem_or_eq_of_mem_set hx with h | h
      · exact hS.sb x h
      · rw [h]; exact hs
    have HPY : Hid (cardOk d f (ss.set K s) = true → putAt d f ss K s = (ss.set K s, true)) := by
      intro h; unfold putAt; rw [hl, hh]; simp [h]
    have HPN : Hid (cardOk d f (ss.set K s) = false → putAt d f ss K s = (ss, false)) := by
      intro h; unfold putAt; rw [hl, hh]; simp [h]
    clear hl hh
    have tok1 : True := trivial
    go_enter Tryz.func248, Tryz.ntmps248
    go_wp2_with (first | (go_at_call 181; refine (s_l05Copy _ _ B _ _ _ ss _ hS2 (by simp; omega)).mono ?_; rintro e w1 ⟨A1, c1, rfl, ho1, hb1⟩; obtain ⟨hcb, hfb⟩ := bcell hb1; have hz_w1_0 : w.heap.size < w1.heap.size := (by have hzz := hb1.size; (try simp at hzz); omega); have hy_w1_0 := Nat.le_of_lt hz_w1_0; have hz_w1_1 : w.heap.size + 1 < w1.heap.size := (by have hzz := hb1.size; (try simp at hzz); omega); have hy_w1_1 := Nat.le_of_lt hz_w1_1; have hS3 := hS2.below (hb1.mono (by simp; omega)); have hKl : K < ss.length := (by have := HL.out; omega); obtain ⟨g, cap, hv, hbg, hglt⟩ := ho1.form (by omega); (have hA : A1 = some ⟨g, 0, none⟩ := (by injection hv)); subst hA; clear hv; have hge_g : w.heap.size + 2 ≤ g := (by have hzz := hbg; (try simp at hzz); omega); have hne_g_0 : g ≠ w.heap.size := (by have hzz := hbg; (try simp at hzz); omega); have hne2_g_0 := Ne.symm hne_g_0; have hne_g_1 : g ≠ w.heap.size + 1 := (by have hzz := hbg; (try simp at hzz); omega); have hne2_g_1 := Ne.symm hne_g_1) | (go_at_call 97; have _t := tok1; refine (s_CardOk _ _ _ _ _ ss _ ((hS3.alloc (by omega) _).more (by simp; omega))).mono ?_; rintro e w2 ⟨rfl, hb2⟩; obtain ⟨hcb2, hfb2⟩ := bcell hb2; have hz_w2_0 : w.heap.size < w2.heap.size := (by have hzz := hb2.size; (try simp at hzz); omega); have hy_w2_0 := Nat.le_of_lt hz_w2_0; have hz_w2_1 : w.heap.size + 1 < w2.heap.size := (by have hzz := hb2.size; (try simp at hzz); omega); have hy_w2_1 := Nat.le_of_lt hz_w2_1; have ho2 := own_below (ho1.alloc _) hb2; obtain ⟨u1, hc1⟩ := own_cell ho1 (j := K) hKl; have hf1 := ho1.frozenAt K; have hgle : g ≤ w1.heap.size := Nat.le_of_lt hglt; have hzz2 : w1.heap.size < w2.heap.size := (by have hq := hb2.size; simp at hq; omega); clear _t tok1) | (go_at_call 95; refine (s_l01In _ _ _ _).mono ?_; rintro e w' ⟨rfl, rfl⟩))
    have ho3 := (ho2.stored K (.string s)).1
    rw [set_map] at ho3
    have hsz3 : (w2.setCell ⟨g, K, none⟩ (.string s)).heap.size = w2.heap.size := by simp [World.setCell]
    have hT3 : Strs (w2.setCell ⟨g, K, none⟩ (.string s)) w2.heap.size (some ⟨g, 0, none⟩) ss.length (ss.set K s) := by
      have h := strs_of_own ho3 (by have := HL.out; omega) hsb
      rw [hsz3] at h; exact h
    have hS4 : Strs (w2.setCell ⟨g, K, none⟩ (.string s)) B A n ss := ((hS3.alloc (by omega) _).below (hb2.mono (by simp; omega))).setCell (by have := hb1.size; simp at this; show B ≤ g; simp at hbg; omega) _
    have hlen : (ss.set K s).length = ss.length := List.length_set
    have HLEN := Lib.hid hlen
    clear hlen hsz3
    cases hcs : cardOk d f (ss.set K s)
    · have HP := Lib.hid (HPN.out hcs)
      refine (s_CardOk _ _ _ _ _ (ss.set K s) _ (hT3.more (by simp [World.setCell]))).mono ?_
      rintro e w3 ⟨rfl, hb4⟩
      obtain ⟨hcb4, hfb4⟩ := bcell hb4
      have hz_w3_0 : w.heap.size < w3.heap.size := (by have hzz := hb4.size; (try simp at hzz); omega); have hy_w3_0 := Nat.le_of_lt hz_w3_0; have hz_w3_1 : w.heap.size + 1 < w3.heap.size := (by have hzz := hb4.size; (try simp at hzz); omega); have hy_w3_1 := Nat.le_of_lt hz_w3_1
      go_wp2_with (first | (go_at_call 181; refine (s_l05Copy _ _ B _ _ _ ss _ (hS4.below (hb4.mono (by simp [World.setCell]; omega))) (by omega)).mono ?_; rintro e w4 ⟨A4, c4, rfl, ho5, hb5⟩; obtain ⟨hcb5, hfb5⟩ := bcell hb5; have hz_w4_0 : w.heap.size < w4.heap.size := (by have hzz := hb5.size; (try simp at hzz); omega); have hy_w4_0 := Nat.le_of_lt hz_w4_0; have hz_w4_1 : w.heap.size + 1 < w4.heap.size := (by have hzz := hb5.size; (try simp at hzz); omega); have hy_w4_1 := Nat.le_of_lt hz_w4_1))
      refine bodyPost_ret (v := .tuple #[.agg #[.int .i64 d, .int .i64 f, .slice A4 ss.length c4], .bool false]) (by simp [results, Tryz.results248, go_sem, *]) rfl ?_
      rw [HP.out]
      exact ⟨A4, c4, rfl, own_up ho5 upr (by first | exact Nat.le_refl _ | (simp; done) | omega | (simp; omega) | exact (‹_ ∧ _ ∧ Below _ _ _›).2.2.size), bel⟩
    · have HP := Lib.hid (HPY.out hcs)
      refine (s_CardOk _ _ _ _ _ (ss.set K s) _ (hT3.more (by simp [World.setCell]))).mono ?_
      rintro e w3 ⟨rfl, hb4⟩
      obtain ⟨hcb4, hfb4⟩ := bcell hb4
      have hz_w3_0 : w.heap.size < w3.heap.size := (by have hzz := hb4.size; (try simp at hzz); omega); have hy_w3_0 := Nat.le_of_lt hz_w3_0; have hz_w3_1 : w.heap.size + 1 < w3.heap.size := (by have hzz := hb4.size; (try simp at hzz); omega); have hy_w3_1 := Nat.le_of_lt hz_w3_1
      have ho4 := own_below ho3 hb4
      go_wp2
      refine bodyPost_ret (v := .tuple #[.agg #[.int .i64 d, .int .i64 f, .slice (some ⟨g, 0, none⟩) ss.length c1], .bool true]) (by simp [results, Tryz.results248, go_sem, *]) rfl ?_
      rw [HP.out]
      unfold FreshCardB
      dsimp only
      rw [HLEN.out]
      exact ⟨_, c1, rfl, own_up ho4 upr (by first | exact Nat.le_refl _ | (simp; done) | omega | (simp; omega) | exact (‹_ ∧ _ ∧ Below _ _ _›).2.2.size), bel⟩
end Go.Proofs.YtlimlolciekimaaGreatDoor
namespace Go.Proofs.YtlimlolciekimaaGreatDoor
open Go.ChangeShapes Go.WideShapes Go.ChangeAt Go.RowKit
set_option linter.unusedVariables false
set_option maxRecDepth 10000
def mirrorRes (d f : Int) (ss : List ByteArray) : Int × Int × List ByteArray := if cardOk d f ss = true then (d, f, ss.reverse) else (0, 0, [])
end Go.Proofs.YtlimlolciekimaaGreatDoor
namespace Go.Proofs.YtlimlolciekimaaGreatDoor
open Go.ChangeShapes Go.WideShapes Go.ChangeAt Go.RowKit
set_option linter.unusedVariables false
set_option maxRecDepth 10000
section
variable {α : Type} {f : α → List Value} {k : Nat}
theorem flat_len (hf : ∀ x, (f x).length = k) (l : List α) : (l.flatMap f).length = l.length * k := by
  induction l with
  | nil => simp
  | cons x l ih => rw [List.flatMap_cons, List.length_append, hf, ih, List.length_cons, Nat.add_mul, Nat.one_mul, Nat.add_comm]
theorem flat_get (hf : ∀ x, (f x).length = k) (l : List α) (i j : Nat) (hi : i < l.length) (hj : j < k) : (l.flatMap f)[i * k + j]? = (f l[i])[j]? := by
  induction l generalizing i with
  | nil => simp at hi
  | cons x l ih =>
    rw [List.flatMap_cons]
    cases i with
    | zero => rw [List.getElem?_append_left (by rw [hf]; omega)]; simp
    | succ i =>
      rw [List.getElem?_append_right (by rw [hf, Nat.add_mul]; omega), hf]
      rw [show (i + 1) * k + j - k = i * k + j by rw [Nat.add_mul]; omega]
      rw [ih i (by simpa using hi)]; simp
theorem flat_snoc (l : List α) (x : α) : (l ++ [x]).flatMap f = l.flatMap f ++ f x := by simp
end
theorem add_next (a : Addr) (m j : Nat) (hj : 0 < j) : a.add (m + j) = ⟨(a.add m).block, (a.add m).off + j, none⟩ := by
  unfold Addr.add
  rw [if_neg (by omega)]
  by_cases h : m = 0
  · subst h; simp
  · rw [if_neg h]; simp [Nat.add_assoc]
theorem keep_ofP {B : Nat} {a W : World} (h : Below B a W) : (∀ p : Addr, p.block < B → W.cell? p = a.cell? p) ∧ (∀ p : Addr, p.block < B → W.frozen? p = a.frozen? p) ∧ Below B a W :=
  ⟨fun _ hb => h.cell hb, fun _ hb => h.frozen hb, h⟩
theorem own_cellk {w : World} {base size : Nat} {e : TypeId} {g n c : Nat} {xs : List Value} (h : w.ownsRow base e size (.slice (some ⟨g, 0, none⟩) n c) n xs) (j : Nat) (hj : j < n * size) : ∃ u, w.cell? ⟨g, j, none⟩ = some u := by
  have hl := h.1
  rw [h.cellAt j hj, List.getElem?_eq_getElem (by omega)]
  exact ⟨_, rfl⟩
def reps (zs : List Value) (n : Nat) : List Value := (List.replicate n zs).flatten
theorem reps_len (zs : List Value) (n : Nat) : (reps zs n).length = n * zs.length := by simp [reps]
theorem reps_succ (zs : List Value) (n : Nat) : reps zs (n + 1) = zs ++ reps zs n := by simp [reps, List.replicate_succ]
theorem reps_get (zs : List Value) (n i : Nat) (hi : i < n * zs.length) : (reps zs n)[i]? = zs[i % zs.length]? := by
  induction n generalizing i with
  | zero => omega
  | succ n ih =>
    rw [reps_succ]
    by_cases h : i < zs.length
    · rw [List.getElem?_append_left h, Nat.mod_eq_of_lt h]
    · rw [List.getElem?_append_right (by omega), ih (i - zs.length) (by rw [Nat.add_mul] at hi; omega)]
      congr 1
      rw [Nat.mod_eq_sub_mod (a := i) (by omega)]
theorem made_reps (zs : List Value) (n : Nat) (hz : 0 < zs.length) : (madeCells zs.toArray (n * zs.length)).toList = reps zs n := by
  apply List.ext_getElem?
  intro i
  by_cases h : i < n * zs.length
  · rw [reps_get zs n i h]
    have hm : i % zs.length < zs.length := Nat.mod_lt _ hz
    simp [madeCells, h, hm]
  · rw [List.getElem?_eq_none (by simp [madeCells]; omega), List.getElem?_eq_none (by rw [reps_len]; omega)]
theorem set3 (A C : List Value) (p : Nat) (hp : A.length = p) (z0 z1 z2 c0 c1 c2 : Value) : ((((A ++ ([z0, z1, z2] ++ C)).set (p) c0).set (p + 1) c1).set (p + 2) c2) = A ++ ([c0, c1, c2] ++ C) := by
  subst hp
  induction A with
  | nil => rfl
  | cons a A ih =>
    simp only [List.cons_append, List.length_cons, Nat.add_right_comm _ 1, List.set_cons_succ]
    exact congrArg (a :: ·) (by simp)
theorem set7 (A C : List Value) (p : Nat) (hp : A.length = p) (z0 z1 z2 z3 z4 z5 z6 c0 c1 c2 c3 c4 c5 c6 : Value) : ((((((((A ++ ([z0, z1, z2, z3, z4, z5, z6] ++ C)).set (p) c0).set (p + 1) c1).set (p + 2) c2).set (p + 3) c3).set (p + 4) c4).set (p + 5) c5).set (p + 6) c6) = A ++ ([c0, c1, c2, c3, c4, c5, c6] ++ C) := by
  subst hp
  induction A with
  | nil => rfl
  | cons a A ih =>
    simp only [List.cons_append, List.length_cons, Nat.add_right_comm _ 1, List.set_cons_succ]
    exact congrArg (a :: ·) (by simp)
structure PBox where
  (F L T : Int)
def boxCells (s : PBox) : List Value := [.int .i64 s.F, .int .i64 s.L, .int .i64 s.T]
structure Boxes (w : World) (B : Nat) (A : Option Addr) (n : Nat) (l : List PBox) : Prop where
  rd : Reads w B 3 A n (l.flatMap boxCells)
  nb : n ≤ 16777216
section
variable {w w' : World} {B B' n : Nat} {A : Option Addr} {l : List PBox}
end
structure PStep where
  (K F L T I : Int)
  (b a : ByteArray)
def stepCells (s : PStep) : List Value := [.int .i64 s.K, .int .i64 s.F, .int .i64 s.L, .int .i64 s.T, .int .i64 s.I, .string s.b, .string s.a]
theorem stepCells_len (s : PStep) : (stepCells s).length = 7 := rfl
structure Steps (w : World) (B : Nat) (A : Option Addr) (n : Nat) (l : List PStep) : Prop where
  rd : Reads w B 7 A n (l.flatMap stepCells)
  nb : n ≤ 16777216
  sb : ∀ s ∈ l, s.b.size ≤ 16777216 ∧ s.a.size ≤ 16777216
section
variable {w w' : World} {B B' n : Nat} {A : Option Addr} {l : List PStep}
theorem Steps.len (h : Steps w B A n l) : l.length = n := by
  have := h.rd.1; rw [flat_len stepCells_len] at this; omega
theorem Steps.below (h : Steps w B A n l) (hb : Below B w w') : Steps w' B A n l := ⟨h.rd.below hb, h.nb, h.sb⟩
theorem Steps.alloc (h : Steps w B A n l) (hB : B ≤ w.heap.size) (o : Obj) : Steps (w.alloc o) B A n l := ⟨h.rd.alloc hB o, h.nb, h.sb⟩
theorem stepCells_at {w : World} {B n : Nat} {A : Option Addr} {l : List PStep} {k : Nat} (hR : Reads w B 7 A n (l.flatMap stepCells)) (hl : l.length = n) (hk : k < n) : ∃ (hk' : k < l.length) (ad : Addr), A = some ad ∧ ad.block < B ∧ w.cell? (ad.add (k * 7)) = some (.int .i64 l[k].K) ∧ w.cell? ⟨(ad.add (k * 7)).block, (ad.add (k * 7)).off + 1, none⟩ = some (.int .i64 l[k].F) ∧ w.cell? ⟨(ad.add (k * 7)).block, (ad.add (k * 7)).off + 2, none⟩ = some (.int .i64 l[k].L) ∧ w.cell? ⟨(ad.add (k * 7)).block, (ad.add (k * 7)).off + 3, none⟩ = some (.int .i64 l[k].T) ∧ w.cell? ⟨(ad.add (k * 7)).block, (ad.add (k * 7)).off + 4, none⟩ = some (.int .i64 l[k].I) ∧ w.cell? ⟨(ad.add (k * 7)).block, (ad.add (k * 7)).off + 5, none⟩ = some (.string l[k].b) ∧ w.cell? ⟨(ad.add (k * 7)).block, (ad.add (k * 7)).off + 6, none⟩ = some (.string l[k].a) := by
  have hk' : k < l.length := by omega
  obtain ⟨ad, e, hb, hc⟩ := hR.2 (by omega)
  have hg := fun j hj => flat_get stepCells_len l k j hk' hj
  exact ⟨hk', ad, e, hb, hc _ _ (hg 0 (by omega)), by rw [← add_next _ _ _ (by omega)]; exact hc _ _ (hg 1 (by omega)), by rw [← add_next _ _ _ (by omega)]; exact hc _ _ (hg 2 (by omega)), by rw [← add_next _ _ _ (by omega)]; exact hc _ _ (hg 3 (by omega)), by rw [← add_next _ _ _ (by omega)]; exact hc _ _ (hg 4 (by omega)), by rw [← add_next _ _ _ (by omega)]; exact hc _ _ (hg 5 (by omega)), by rw [← add_next _ _ _ (by omega)]; exact hc _ _ (hg 6 (by omega))⟩
theorem Steps.at_ {k : Nat} (h : Steps w B A n l) (hk : k < n) : ∃ (hk' : k < l.length) (ad : Addr), A = some ad ∧ ad.block < B ∧ w.cell? (ad.add (k * 7)) = some (.int .i64 l[k].K) ∧ w.cell? ⟨(ad.add (k * 7)).block, (ad.add (k * 7)).off + 1, none⟩ = some (.int .i64 l[k].F) ∧ w.cell? ⟨(ad.add (k * 7)).block, (ad.add (k * 7)).off + 2, none⟩ = some (.int .i64 l[k].L) ∧ w.cell? ⟨(ad.add (k * 7)).block, (ad.add (k * 7)).off + 3, none⟩ = some (.int .i64 l[k].T) ∧ w.cell? ⟨(ad.add (k * 7)).block, (ad.add (k * 7)).off + 4, none⟩ = some (.int .i64 l[k].I) ∧ w.cell? ⟨(ad.add (k * 7)).block, (ad.add (k * 7)).off + 5, none⟩ = some (.string l[k].b) ∧ w.cell? ⟨(ad.add (k * 7)).block, (ad.add (k * 7)).off + 6, none⟩ = some (.string l[k].a) ∧ l[k].b.size ≤ 16777216 ∧ l[k].a.size ≤ 16777216 := by
  have hl := h.len
  have hk' : k < l.length := by omega
  obtain ⟨ad, e, hb, hc⟩ := h.rd.2 (by omega)
  have hg := fun j hj => flat_get stepCells_len l k j hk' hj
  have hs := h.sb _ (List.getElem_mem hk')
  exact ⟨hk', ad, e, hb, hc _ _ (hg 0 (by omega)), by rw [← add_next _ _ _ (by omega)]; exact hc _ _ (hg 1 (by omega)), by rw [← add_next _ _ _ (by omega)]; exact hc _ _ (hg 2 (by omega)), by rw [← add_next _ _ _ (by omega)]; exact hc _ _ (hg 3 (by omega)), by rw [← add_next _ _ _ (by omega)]; exact hc _ _ (hg 4 (by omega)), by rw [← add_next _ _ _ (by omega)]; exact hc _ _ (hg 5 (by omega)), by rw [← add_next _ _ _ (by omega)]; exact hc _ _ (hg 6 (by omega)), hs.1, hs.2⟩
end
structure PPaper where
  (k g s : Int)
def paperCells (s : PPaper) : List Value := [.int .i64 s.k, .int .i64 s.g, .int .i64 s.s]
theorem paperCells_len (s : PPaper) : (paperCells s).length = 3 := rfl
structure Papers (w : World) (B : Nat) (A : Option Addr) (n : Nat) (l : List PPaper) : Prop where
  rd : Reads w B 3 A n (l.flatMap paperCells)
  nb : n ≤ 16777216
section
variable {w w' : World} {B B' n : Nat} {A : Option Addr} {l : List PPaper}
theorem Papers.len (h : Papers w B A n l) : l.length = n := by
  have := h.rd.1; rw [flat_len paperCells_len] at this; omega
theorem Papers.below (h : Papers w B A n l) (hb : Below B w w') : Papers w' B A n l := ⟨h.rd.below hb, h.nb⟩
theorem Papers.alloc (h : Papers w B A n l) (hB : B ≤ w.heap.size) (o : Obj) : Papers (w.alloc o) B A n l := ⟨h.rd.alloc hB o, h.nb⟩
theorem Papers.at_ {k : Nat} (h : Papers w B A n l) (hk : k < n) : ∃ (hk' : k < l.length) (ad : Addr), A = some ad ∧ ad.block < B ∧ w.cell? (ad.add (k * 3)) = some (.int .i64 l[k].k) ∧ w.cell? ⟨(ad.add (k * 3)).block, (ad.add (k * 3)).off + 1, none⟩ = some (.int .i64 l[k].g) ∧ w.cell? ⟨(ad.add (k * 3)).block, (ad.add (k * 3)).off + 2, none⟩ = some (.int .i64 l[k].s) := by
  have hl := h.len
  have hk' : k < l.length := by omega
  obtain ⟨ad, e, hb, hc⟩ := h.rd.2 (by omega)
  have hg := fun j hj => flat_get paperCells_len l k j hk' hj
  exact ⟨hk', ad, e, hb, hc _ _ (hg 0 (by omega)), by rw [← add_next _ _ _ (by omega)]; exact hc _ _ (hg 1 (by omega)), by rw [← add_next _ _ _ (by omega)]; exact hc _ _ (hg 2 (by omega))⟩
end
end Go.Proofs.YtlimlolciekimaaGreatDoor
namespace Go.Proofs.YtlimlolciekimaaGreatDoor
open Go.ChangeShapes Go.WideShapes Go.ChangeAt Go.RowKit
set_option linter.unusedVariables false
set_option maxRecDepth 10000
section
variable {H : Type} {enc : TypeId × Value → H} {P : Program}
theorem post_of_below {f : Func} {s : ChangeSpec} {apart fresh handsOn again : Bool} {W W' : World} {args : Array Value} {v : Value} {ds gs : List (DataW H)} {before pa pv : List MemPlace}
    (hW : DataW.Whole enc P f.params.toList s.vars apart W args.toList ds gs before)
    (hres : ∀ (b : Nat) (sp : Nat → Bool) (hd : Bool), DataW.TrodAll enc P W' b sp hd f.resultTypes.toList (v.resultList f.resultTypes.size) (s.fn H (ds ++ gs)).results [])
    (hargs : ∀ sp : Nat → Bool, (∀ p ∈ before, sp p.block = true) → DataW.TrodAll enc P W' 0 sp true f.params.toList args.toList (s.fn H (ds ++ gs)).args pa)
    (hvars : ∀ sp : Nat → Bool, (∀ p ∈ before, sp p.block = true) → DataW.TrodVars enc P W' sp s.vars (s.fn H (ds ++ gs)).vars pv)
    (hps : before = pa ++ pv) (hb : Below W.heap.size W W')
    (hok : ∀ (j : Nat) (t : TypeId) (r : Value), f.resultTypes[j]? = some t → (v.resultList f.resultTypes.size)[j]? = some r → Value.okWide P W' .any 0 t r) :
    s.post enc P f apart fresh handsOn again W args v W' := by
  have hlt : ∀ p ∈ before, p.block < W.heap.size := fun p hp => hW.lt p hp
  have hold : ∀ p ∈ before, (fun b => decide (b < W.heap.size)) p.block = true := fun p hp => by simpa using hlt p hp
  refine ⟨ds, gs, before, [], pa, pv, hW, hres _ _ _, hargs _ hold, hvars _ hold, World.keptBut_mono (fun p hp => ⟨hp, ?_⟩) (hb.frame (· ∈ before)), fun _ => ?_⟩
  · rw [hps, List.mem_append] at hp
    exact Or.inr hp
  · obtain ⟨_, _, _, _, _, hz, hn⟩ := hW
    refine ⟨hok, _, _, ([] ++ pa) ++ pv, ⟨[] ++ pa, pv, trodAll_append (hargs _ (fun _ _ => rfl)) (hres _ _ _), hvars _ (fun _ _ => rfl), rfl, ?_, ?_⟩, ?_⟩
    · intro b off hp
      have hin : MemPlace.cell b off ∈ before := by rw [hps]; simpa using hp
      rw [hb.frozen (hlt _ hin)]
      exact hz b off hin
    · intro ha
      have := hn ha
      rw [hps] at this
      simpa using this
    · intro p hp _
      rw [hps]
      simpa using hp
end
theorem own0 : ownKnob Tryz.prog.godebug = none := by kernel_rfl
theorem laid0 : laidOutB Tryz.prog = true := by kernel_rfl
theorem trodAll_stays {H : Type} {enc : TypeId × Value → H} {W W' : World} (hb : Below W.heap.size W W') {sp : Nat → Bool} :
    ∀ (ts : List TypeId) (vs : List Value) (ds : List (DataW H)) (ps : List MemPlace), (∀ t ∈ ts, Tryz.prog.readableRec t = true ∧ t < Tryz.prog.types.size) →
      DataW.TrodAll enc Tryz.prog W 0 (fun _ => true) true ts vs ds ps → (∀ p ∈ ps, p.block < W.heap.size) → (∀ p ∈ ps, sp p.block = true) → DataW.TrodAll enc Tryz.prog W' 0 sp true ts vs ds ps
  | [], vs, ds, ps, _, h, _, _ => by
    cases vs <;> cases ds <;> simp [DataW.TrodAll] at h ⊢
    exact h
  | t :: ts, vs, ds, ps, hr, h, hlt, hsp => by
    obtain ⟨v, vs', d, ds', p, q, rfl, rfl, rfl, h1, h2⟩ := trodAll_cons h
    have hr0 := hr t (List.mem_cons_self)
    exact ⟨p, q, WideElems.Trod_stays laid0 hr0.1 hr0.2 h1 (fun x hx => hb.same (hlt x (List.mem_append_left _ hx))) (fun x hx => hsp x (List.mem_append_left _ hx)),
      trodAll_stays hb ts vs' ds' q (fun t' ht => hr t' (List.mem_cons_of_mem _ ht)) h2 (fun x hx => hlt x (List.mem_append_right _ hx)) (fun x hx => hsp x (List.mem_append_right _ hx)), rfl⟩
theorem post_law {H : Type} {enc : TypeId × Value → H} {f : Func} {s : ChangeSpec} {W W' : World} {args : Array Value} {ds gs : List (DataW H)} {before : List MemPlace}
    (hW : DataW.Whole enc Tryz.prog f.params.toList s.vars false W args.toList ds gs before) (hv : s.vars = []) (hr : ∀ t ∈ f.params.toList, Tryz.prog.readableRec t = true ∧ t < Tryz.prog.types.size)
    (hf : f.resultTypes = #[4]) (hfn : ds.length = f.params.size → s.fn H (ds ++ []) = { results := [.lit (.bool true)], args := ds }) (hb : Below W.heap.size W W') :
    s.post enc Tryz.prog f false true false false W args (.bool true) W' := by
  have hW' := hW
  obtain ⟨p, q, hA0, hV, hbe, hfz, hnd⟩ := hW
  rw [hv] at hV
  obtain ⟨rfl, rfl⟩ := trodVars_none hV
  simp only [List.append_nil] at hbe
  subst hbe
  have hlen : ds.length = f.params.size := by
    have : ∀ (ts : List TypeId) (vs : List Value) (ds : List (DataW H)) (ps : List MemPlace), DataW.TrodAll enc Tryz.prog W 0 (fun _ => true) true ts vs ds ps → ds.length = ts.length := by
      intro ts
      induction ts with
      | nil => intro vs ds ps h; cases vs <;> cases ds <;> simp [DataW.TrodAll] at h ⊢
      | cons t ts ih =>
        intro vs ds ps h
        obtain ⟨v, vs', d, ds', p, q, rfl, rfl, rfl, h1, h2⟩ := trodAll_cons h
        simp [ih _ _ _ h2]
    have h := this _ _ _ _ hA0
    simpa using h
  have hfn' := hfn hlen
  refine post_of_below (pa := before) (pv := []) (gs := []) hW' ?_ ?_ ?_ (by simp) hb ?_
  · intro b sp hd
    rw [hfn', hf]
    exact trodAll_mk1 (shut_bool Tryz.underlying4 true)
  · intro sp hsp
    rw [hfn']
    exact trodAll_stays hb _ _ _ _ hr hA0 (fun x hx => hW'.lt x hx) hsp
  · intro sp _
    rw [hv, hfn']
    rfl
  · intro j t r ht hr2
    rw [hf] at ht hr2
    have hj : j = 0 := by
      rcases Nat.eq_zero_or_pos j with h | h
      · exact h
      · rw [Array.getElem?_eq_none (by simp; omega)] at ht; cases ht
    subst hj
    simp at ht hr2
    subst ht
    have : r = .bool true := by
      simp [Value.resultList] at hr2; exact hr2.symm
    subst this
    exact okWide_bool_mk Tryz.underlying4 true
end Go.Proofs.YtlimlolciekimaaGreatDoor
namespace Go.Proofs.YtlimlolciekimaaGreatDoor
open Go.ChangeShapes Go.WideShapes Go.ChangeAt Go.RowKit
set_option linter.unusedVariables false
set_option maxRecDepth 10000
theorem cells_str : Tryz.prog.cellsOf 9 = 1 := by kernel_rfl
theorem reads_strings {H : Type} {enc : TypeId × Value → H} {W : World} {n : Nat} {cs : List Value} {x : DataW H × List MemPlace} (h : DataW.trod enc Tryz.prog W 0 (fun _ => true) true n 24 cs = some x) :
    ∃ (A : Option Addr) (len c : Nat) (ss : List ByteArray), cs = [.slice A len c] ∧ Reads W W.heap.size 1 A len (ss.map Value.string) ∧ len ≤ maxLen ∧ ∀ s ∈ ss, s.size ≤ maxLen := by
  rcases open_strings Tryz.underlying24 Tryz.underlying9 cells_str h with ⟨hcs, _⟩ | ⟨a, len, cap, ss, hcs, _, hl, hm, hz, hx, hcell, hws⟩
  · exact ⟨none, 0, 0, [], hcs, Reads.none_, by unfold maxLen; omega, fun s hs => by cases hs⟩
  · refine ⟨some a, len, cap, ss.take len, hcs, ⟨?_, fun h0 => ⟨a, rfl, ?_, ?_⟩⟩, by omega, fun s hs => hws s (List.mem_of_mem_take hs)⟩
    · simp at hz
      simp [List.length_take]; omega
    · have h1 := hcell 0 (by simp at hz; omega)
      have h2 := World.block_lt_of_cell? W _ h1
      rwa [block_of_add] at h2
    · intro j u hu
      rw [List.getElem?_map] at hu
      by_cases hj : j < len
      · have h1 := hcell j (by simp at hz; omega)
        rw [h1]
        rw [List.getElem?_take, if_pos hj] at hu
        have hjl : j < ss.length := by simp at hz; omega
        rw [List.getElem?_eq_getElem hjl] at hu
        simp [List.getD, List.getElem?_eq_getElem hjl] at hu ⊢
        exact hu
      · rw [List.getElem?_take, if_neg hj] at hu
        cases hu
end Go.Proofs.YtlimlolciekimaaGreatDoor
namespace Go.Proofs.YtlimlolciekimaaGreatDoor
open Go.ChangeShapes Go.WideShapes Go.ChangeAt Go.RowKit
set_option linter.unusedVariables false
set_option maxRecDepth 10000
set_option maxHeartbeats 400000 in
theorem l_toBox (k a b : Int) (w : World) : Calls Tryz.prog 206 #[.agg #[.int .i64 k, .int .i64 a, .int .i64 b]] w fun e w' => e = .returned (.agg #[.int .i64 k, .int .i64 a, .int .i64 b]) ∧ Below w.heap.size w w' := by
  go_enter Tryz.func206, Tryz.ntmps206
  go_wp2
  refine bodyPost_ret (v := .agg #[.int .i64 k, .int .i64 a, .int .i64 b]) (by simp [results, Tryz.results206, go_sem]) rfl ?_
  exact ⟨rfl, bel⟩
end Go.Proofs.YtlimlolciekimaaGreatDoor
namespace Go.Proofs.YtlimlolciekimaaGreatDoor
open Go.ChangeShapes Go.WideShapes Go.ChangeAt Go.RowKit
set_option linter.unusedVariables false
set_option maxRecDepth 10000
set_option maxHeartbeats 1600000 in
theorem l_eqBox_same (F L T : Int) (w : World) : Calls Tryz.prog 207 #[.agg #[.int .i64 F, .int .i64 L, .int .i64 T], .agg #[.int .i64 F, .int .i64 L, .int .i64 T]] w fun e w' => e = .returned (.bool true) ∧ Below w.heap.size w w' := by
  go_enter Tryz.func207, Tryz.ntmps207
  go_wp2
  go_ret
  exact ⟨rfl, bel⟩
def mkBox (k : Int) : List Value := [.int .i64 (k), .int .i64 (k + 1), .int .i64 (k + 1 + 1)]
def marksBox (k : Int) (n : Nat) : List Value := (List.range n).flatMap fun (i : Nat) => mkBox (k + 3 * (i : Int))
end Go.Proofs.YtlimlolciekimaaGreatDoor
namespace Go.Proofs.YtlimlolciekimaaGreatDoor
open Go.ChangeShapes Go.WideShapes Go.ChangeAt Go.RowKit
set_option linter.unusedVariables false
set_option maxRecDepth 10000
def szStep (b a : ByteArray) (left : Int) : Int := if left - b.size < 0 then -1 else if left - b.size - a.size < 0 then -1 else left - b.size - a.size
theorem sz_ub_step (b a : ByteArray) (l : Int) (h : l ≤ 1048576) : szStep b a l ≤ 1048576 := by
  unfold szStep; split
  · omega
  · split <;> omega
theorem step_of_sz {b a : ByteArray} {l : Int} (hl1 : l ≤ 1048576) (hz : 0 ≤ szStep b a l) : b.size ≤ 1048576 ∧ a.size ≤ 1048576 := by
  unfold szStep at hz
  split at hz
  · omega
  · split at hz <;> omega
set_option maxHeartbeats 400000 in
theorem l_szStep (K F L T I : Int) (b a : ByteArray) (left : Int) (w : World) (hb : b.size ≤ 9223372036854775807) (ha : a.size ≤ 9223372036854775807) (h0 : -1 ≤ left) (h1 : left ≤ 1048576) :
    Calls Tryz.prog 146 #[.agg #[.int .i64 K, .int .i64 F, .int .i64 L, .int .i64 T, .int .i64 I, .string b, .string a], .int .i64 left] w fun e w' => e = .returned (.int .i64 (szStep b a left)) ∧ Below w.heap.size w w' := by
  by_cases h2 : left - b.size < 0
  · have HF : Hid (szStep b a left = -1) := by unfold Hid szStep; rw [if_pos h2]
    go_enter Tryz.func146, Tryz.ntmps146
    go_wp2
    go_ret
    exact ⟨ret_int HF.out.symm, bel⟩
  · by_cases h3 : left - b.size - a.size < 0
    · have HF : Hid (szStep b a left = -1) := by unfold Hid szStep; rw [if_neg h2, if_pos h3]
      go_enter Tryz.func146, Tryz.ntmps146
      go_wp2
      go_ret
      exact ⟨ret_int HF.out.symm, bel⟩
    · have HF : Hid (szStep b a left = left - b.size - a.size) := by unfold Hid szStep; rw [if_neg h2, if_neg h3]
      go_enter Tryz.func146, Tryz.ntmps146
      go_wp2
      go_ret
      exact ⟨ret_int HF.out.symm, bel⟩
set_option maxHeartbeats 800000 in
theorem l_toStep (K F L T I : Int) (b a : ByteArray) (w : World) : Calls Tryz.prog 154 #[.agg #[.int .i64 K, .int .i64 F, .int .i64 L, .int .i64 T, .int .i64 I, .string b, .string a]] w fun e w' => e = .returned (.agg #[.int .i64 K, .int .i64 F, .int .i64 L, .int .i64 T, .int .i64 I, .string b, .string a]) ∧ Below w.heap.size w w' := by
  go_enter Tryz.func154, Tryz.ntmps154
  go_wp2_with (go_at_call 206; refine (l_toBox _ _ _ _).mono ?_; rintro e w1 ⟨rfl, hb1⟩; obtain ⟨hcb, hfb⟩ := bcell hb1; have hz_w1_0 : w.heap.size < w1.heap.size := (by have hzz := hb1.size; (try simp at hzz); omega); have hy_w1_0 := Nat.le_of_lt hz_w1_0; have hz_w1_1 : w.heap.size + 1 < w1.heap.size := (by have hzz := hb1.size; (try simp at hzz); omega); have hy_w1_1 := Nat.le_of_lt hz_w1_1; have hz_w1_2 : w.heap.size + 1 + 1 < w1.heap.size := (by have hzz := hb1.size; (try simp at hzz); omega); have hy_w1_2 := Nat.le_of_lt hz_w1_2)
  refine bodyPost_ret (v := .agg #[.int .i64 K, .int .i64 F, .int .i64 L, .int .i64 T, .int .i64 I, .string b, .string a]) (by simp [results, Tryz.results154, go_sem, *]) rfl ?_
  exact ⟨rfl, (by repeat (first | (with_reducible exact Below.refl _ _) | (with_reducible assumption) | (with_reducible exact (‹_ ∧ _ ∧ Below _ _ _›).2.2) | (with_reducible refine below_drewN ?_ _) | (with_reducible refine Below.drew ?_) | ((with_reducible refine Below.alloc ?_ ?hsd _); (case hsd => (first | exact Nat.le_refl _ | (simp; done) | omega | (simp; omega) | exact (‹_ ∧ _ ∧ Below _ _ _›).2.2.size))) | ((with_reducible refine Below.setCell ?_ ?hsd _); (case hsd => (first | exact Nat.le_refl _ | (simp; done) | omega | (simp; omega) | exact (‹_ ∧ _ ∧ Below _ _ _›).2.2.size))) | ((with_reducible refine Below.trans ?_ (Below.mono (by with_reducible assumption) ?hsd)); (case hsd => (first | exact Nat.le_refl _ | (simp; done) | omega | (simp; omega) | exact (‹_ ∧ _ ∧ Below _ _ _›).2.2.size)))))⟩
theorem trod_field {H : Type} {enc : TypeId × Value → H} {P : Program} {w : World} {base : Nat} {spare : Nat → Bool} {held : Bool} {t : TypeId} {fs : Array Field} {fuel : Nat} {cs : List Value} {x : DataW H × List MemPlace}
    (ht : P.underlying t = some (.struct fs)) (h : DataW.trod enc P w base spare held fuel t cs = some x) (i : Nat) (f : Field) (hf : fs[i]? = some f) {c : Nat} (hc : P.cellsOf f.type = c) :
    ∃ n y, DataW.trod enc P w base spare held n f.type ((cs.drop f.offset).take c) = some y := by
  obtain ⟨xs, n, _, _, _, hlen, hg⟩ := DataW.trod_struct ht h
  have h1 := hg i f hf
  have hi : i < fs.size := (Array.getElem?_eq_some_iff.1 hf).1
  rw [List.getElem?_eq_getElem (by omega), hc] at h1
  exact ⟨n, _, h1⟩
theorem cells_int : Tryz.prog.cellsOf 3 = 1 := by kernel_rfl
theorem cells_lbox2 : Tryz.prog.cellsOf 174 = 3 := by kernel_rfl
theorem cells_lstep : Tryz.prog.cellsOf 176 = 7 := by kernel_rfl
theorem trod_step {H : Type} {enc : TypeId × Value → H} {W : World} {n : Nat} {c0 c1 c2 c3 c4 c5 c6 : Value} {x : DataW H × List MemPlace} (h : DataW.trod enc Tryz.prog W 0 (fun _ => true) true n 176 [c0, c1, c2, c3, c4, c5, c6] = some x) :
    ∃ (K F L T I : Int) (b a : ByteArray), [c0, c1, c2, c3, c4, c5, c6] = [.int .i64 K, .int .i64 F, .int .i64 L, .int .i64 T, .int .i64 I, .string b, .string a] ∧ b.size ≤ maxLen ∧ a.size ≤ maxLen := by
  obtain ⟨m0, y0, h0⟩ := trod_field Tryz.underlying176 h 0 _ rfl cells_int
  obtain ⟨m1, y1, h1⟩ := trod_field Tryz.underlying176 h 1 _ rfl cells_lbox2
  obtain ⟨m2, y2, h2⟩ := trod_field Tryz.underlying176 h 2 _ rfl cells_int
  obtain ⟨m3, y3, h3⟩ := trod_field Tryz.underlying176 h 3 _ rfl cells_str
  obtain ⟨m4, y4, h4⟩ := trod_field Tryz.underlying176 h 4 _ rfl cells_str
  obtain ⟨q0, z0, g0⟩ := trod_field Tryz.underlying174 h1 0 _ rfl cells_int
  obtain ⟨q1, z1, g1⟩ := trod_field Tryz.underlying174 h1 1 _ rfl cells_int
  obtain ⟨q2, z2, g2⟩ := trod_field Tryz.underlying174 h1 2 _ rfl cells_int
  obtain ⟨K, e0, _, _⟩ := DataW.trod_int Tryz.underlying3 h0
  obtain ⟨F, e1, _, _⟩ := DataW.trod_int Tryz.underlying3 g0
  obtain ⟨L, e2, _, _⟩ := DataW.trod_int Tryz.underlying3 g1
  obtain ⟨T, e3, _, _⟩ := DataW.trod_int Tryz.underlying3 g2
  obtain ⟨I, e4, _, _⟩ := DataW.trod_int Tryz.underlying3 h2
  obtain ⟨b, e5, _, hb⟩ := DataW.trod_string Tryz.underlying9 h3
  obtain ⟨a, e6, _, ha⟩ := DataW.trod_string Tryz.underlying9 h4
  simp at e0 e1 e2 e3 e4 e5 e6
  subst e0; subst e1; subst e2; subst e3; subst e4; subst e5; subst e6
  exact ⟨K, F, L, T, I, b, a, rfl, hb, ha⟩
end Go.Proofs.YtlimlolciekimaaGreatDoor
namespace Go.Proofs.YtlimlolciekimaaGreatDoor
open Go.ChangeShapes Go.WideShapes Go.ChangeAt Go.RowKit Go.Deep
set_option linter.unusedVariables false
set_option maxRecDepth 10000
theorem reads_rows {α : Type} {f : α → List Value} {k : Nat} (hf : ∀ x, (f x).length = k) (hk : 0 < k) {Q : α → Prop} {H : Type} {enc : TypeId × Value → H} {P : Program} {W : World} {t e : TypeId} {fuel : Nat} {cs : List Value} {x : DataW H × List MemPlace}
    (ht : P.underlying t = some (.slice e)) (hC : P.cellsOf e = k) (h : DataW.trod enc P W 0 (fun _ => true) true fuel t cs = some x)
    (hel : ∀ n cs' y, cs'.length = k → DataW.trod enc P W 0 (fun _ => true) true n e cs' = some y → ∃ b : α, cs' = f b ∧ Q b) :
    ∃ (A : Option Addr) (n c : Nat) (l : List α), cs = [.slice A n c] ∧ Reads W W.heap.size k A n (l.flatMap f) ∧ l.length = n ∧ n ≤ maxLen ∧ ∀ b ∈ l, Q b := by
  rcases open_slice ht h with ⟨hcs, _⟩ | ⟨a, len, cap, m, n, D, Pl, hcs, _, hl, hm, hmm, _, hi⟩
  · exact ⟨none, 0, 0, [], hcs, ⟨by simp, fun h0 => absurd h0 (by omega)⟩, rfl, by unfold maxLen; omega, fun b hb => by cases hb⟩
  · have hlm : len ≤ m := by rw [hmm]; simp; exact hl
    have hb : ∀ i, i < len → ∃ b : α, (∀ j, j < k → W.cell? (a.add (i * k + j)) = (f b)[j]?) ∧ Q b := by
      intro i hil
      obtain ⟨cs', hc, htr⟩ := hi i (by omega)
      rw [hC] at hc
      obtain ⟨_, hcl, hat⟩ := World.cells?_some hc
      obtain ⟨b, rfl, hq⟩ := hel _ _ _ hcl htr
      exact ⟨b, fun j hj => by rw [← add_of_add]; exact hat j hj, hq⟩
    have hlist : ∀ p, p ≤ len → ∃ l : List α, l.length = p ∧ (∀ i (hi : i < l.length), (∀ j, j < k → W.cell? (a.add (i * k + j)) = (f l[i])[j]?) ∧ Q l[i]) := by
      intro p
      induction p with
      | zero => intro _; exact ⟨[], rfl, fun i hi => by simp at hi⟩
      | succ p ih =>
        intro hp
        obtain ⟨l, hll, hlc⟩ := ih (by omega)
        obtain ⟨b, hbc, hq⟩ := hb p (by omega)
        refine ⟨l ++ [b], by simp [hll], fun i hi => ?_⟩
        by_cases hip : i < l.length
        · rw [List.getElem_append_left hip]; exact hlc i hip
        · have he : i = l.length := by simp at hi; omega
          subst he
          rw [List.getElem_append_right (Nat.le_refl _)]
          simp only [Nat.sub_self, List.getElem_cons_zero]
          rw [hll]; exact ⟨hbc, hq⟩
    obtain ⟨l, hll, hlc⟩ := hlist len (Nat.le_refl _)
    refine ⟨some a, len, cap, l, hcs, ⟨by rw [flat_len hf, hll], fun h0 => ⟨a, rfl, ?_, ?_⟩⟩, hll, by omega, fun b hb => ?_⟩
    · have h1 := (hlc 0 (by omega)).1 0 hk
      have hs : ((f (l[0]'(by omega)))[0]?) = some ((f (l[0]'(by omega)))[0]'(by rw [hf]; exact hk)) := List.getElem?_eq_getElem _
      rw [hs] at h1
      have h2 := World.block_lt_of_cell? W _ h1
      rwa [block_of_add] at h2
    · intro j u hu
      have hj : j < len * k := by
        have h1 := (List.getElem?_eq_some_iff.1 hu).1
        rw [flat_len hf, hll] at h1; exact h1
      have hi1 : j / k < l.length := by rw [hll]; exact Nat.div_lt_of_lt_mul (by rw [Nat.mul_comm]; exact hj)
      have hr : j % k < k := Nat.mod_lt _ hk
      have hjd : j = j / k * k + j % k := by rw [Nat.mul_comm]; exact (Nat.div_add_mod j k).symm
      rw [hjd] at hu ⊢
      rw [flat_get hf l _ _ hi1 hr] at hu
      rw [(hlc _ hi1).1 _ hr, hu]
    · obtain ⟨i, hi, rfl⟩ := List.mem_iff_getElem.1 hb
      exact (hlc i hi).2
end Go.Proofs.YtlimlolciekimaaGreatDoor
namespace Go.Proofs.YtlimlolciekimaaGreatDoor
open Go.ChangeShapes Go.WideShapes Go.ChangeAt Go.RowKit
set_option linter.unusedVariables false
set_option maxRecDepth 10000
section
variable {w w' : World} {base bg bx n m size size2 : Nat} {e e2 : TypeId} {v vg vx : Value} {xs : List Value}
theorem blk_markedk {g : Nat} {t : TypeId} {cs : Array Value} (h : w.heap[g]? = some (.cells cs t (0, 0))) (hg : w.grownBy w' v.ownBlock)
    (ho : w.ownsRow base e size v n xs) (hne : e ≠ t) : w'.heap[g]? = some (.cells cs t (0, 0)) := by
  refine (hg.block g (blk_lt h) ?_).trans h
  intro hv
  rcases ho.2 with ⟨rfl, _⟩ | ⟨g', cap, cur, rfl, _, hh, _⟩
  · simp [Value.ownBlock] at hv
  · have : g = g' := by simpa [Value.ownBlock] using hv
    subst this
    rw [h] at hh
    injection hh with hh
    injection hh with _ h2
    exact hne h2.symm
end
def szN (n : Nat) (left : Int) : Int := if left - n < 0 then -1 else left - n
end Go.Proofs.YtlimlolciekimaaGreatDoor
namespace Go.Proofs.YtlimlolciekimaaGreatDoor
open Go.ChangeShapes Go.WideShapes Go.ChangeAt Go.RowKit
set_option linter.unusedVariables false
set_option maxRecDepth 10000
def rowTys : List TypeId := [9
  , 167
  , 65
  , 105
  , 165
  , 3
  , 61
  , 37
  ]
def boxAt (w : World) (k : Nat) : Prop := ∃ cs t fr, w.heap[k]? = some (.cells cs t fr) ∧ t ∉ rowTys
structure Within (lo hi : Nat) (w w' : World) : Prop where
  os : w'.os = w.os
  tape : w'.tape = w.tape
  output : w'.output = w.output
  size : w.heap.size ≤ w'.heap.size
  block : ∀ k, k < w.heap.size → (k < lo ∨ hi ≤ k ∨ boxAt w k) → w'.heap[k]? = w.heap[k]?
section
variable {lo hi lo' hi' : Nat} {w w' a b c : World}
theorem Within.refl (lo hi : Nat) (w : World) : Within lo hi w w := ⟨rfl, rfl, rfl, Nat.le_refl _, fun _ _ _ => rfl⟩
theorem Within.trans (h : Within lo hi a b) (k : Within lo hi b c) : Within lo hi a c :=
  ⟨k.os.trans h.os, k.tape.trans h.tape, k.output.trans h.output, Nat.le_trans h.size k.size, fun i hi h2 => by
    have h3 := h.block i hi h2
    refine (k.block i (Nat.lt_of_lt_of_le hi h.size) ?_).trans h3
    rcases h2 with h2 | h2 | ⟨cs, t, fr, h2, h4⟩
    · exact .inl h2
    · exact .inr (.inl h2)
    · exact .inr (.inr ⟨cs, t, fr, h3.trans h2, h4⟩)⟩
theorem Within.wide (h : Within lo hi a b) (h1 : lo' ≤ lo) (h2 : hi ≤ hi') : Within lo' hi' a b :=
  ⟨h.os, h.tape, h.output, h.size, fun i hi h3 => h.block i hi (by
    rcases h3 with h3 | h3 | h3
    · exact .inl (by omega)
    · exact .inr (.inl (by omega))
    · exact .inr (.inr h3))⟩
theorem Within.of_below (h : Below w.heap.size w w') : Within lo hi w w' := ⟨h.os, h.tape, h.output, h.size, fun i hi _ => h.block i hi⟩
theorem Within.of_grown {base size n : Nat} {e : TypeId} {v : Value} {xs : List Value} (ho : w.ownsRow base e size v n xs) (he : e ∈ rowTys) (hg : w.grownBy w' v.ownBlock) (h1 : lo ≤ base) (h2 : ∀ k, v.ownBlock = some k → k < hi) : Within lo hi w w' :=
  ⟨hg.os, hg.tape, hg.output, hg.size, fun i hi h3 => hg.block i hi (fun e1 => by
    rcases h3 with h3 | h3 | ⟨cs, t, fr, h3, h4⟩
    · have := (ho.lt i e1.symm).1; omega
    · have := h2 i e1.symm; omega
    · rcases ho.2 with ⟨rfl, _⟩ | ⟨g, cap, cur, rfl, _, hgg, _⟩
      · simp [Value.ownBlock] at e1
      · simp [Value.ownBlock] at e1
        subst e1
        rw [h3] at hgg
        injection hgg with q; injection q with _ q
        subst q
        exact h4 he)⟩
theorem Within.below {B : Nat} (h : Within lo hi w w') (hB : B ≤ lo) (hs : B ≤ w.heap.size) : Below B w w' :=
  ⟨h.os, h.tape, h.output, h.size, fun i hi => h.block i (by omega) (.inl (by omega))⟩
theorem Within.box {g : Nat} {cs : Array Value} {t : TypeId} {fr : Nat × Nat} (h : Within lo hi w w') (hg : w.heap[g]? = some (.cells cs t fr)) (hx : t ∉ rowTys := by decide) : w'.heap[g]? = some (.cells cs t fr) := (h.block g (blk_lt hg) (.inr (.inr ⟨cs, t, fr, hg, hx⟩))).trans hg
theorem own_within {base size n : Nat} {e : TypeId} {v : Value} {xs : List Value} (ho : w.ownsRow base e size v n xs) (h : Within lo hi w w') (hx : ∀ k, v.ownBlock = some k → k < lo ∨ hi ≤ k) : w'.ownsRow base e size v n xs := by
  refine ⟨ho.1, ?_⟩
  rcases ho.2 with hn | ⟨g, cap, cur, rfl, hb, hg, rest⟩
  · exact .inl hn
  · exact .inr ⟨g, cap, cur, rfl, hb, (h.block g (blk_lt hg) (by have := hx g rfl; omega)).trans hg, rest⟩
theorem own_ne_type {b1 b2 s1 s2 n1 n2 : Nat} {e1 e2 : TypeId} {v1 v2 : Value} {x1 x2 : List Value} (h1 : w.ownsRow b1 e1 s1 v1 n1 x1) (h2 : w.ownsRow b2 e2 s2 v2 n2 x2) (hne : e1 ≠ e2) : ∀ k, v1.ownBlock = some k → v2.ownBlock ≠ some k := by
  intro k hk hk2
  rcases h1.2 with ⟨rfl, _⟩ | ⟨g1, _, _, rfl, _, hg1, _⟩
  · simp [Value.ownBlock] at hk
  · rcases h2.2 with ⟨rfl, _⟩ | ⟨g2, _, _, rfl, _, hg2, _⟩
    · simp [Value.ownBlock] at hk2
    · simp [Value.ownBlock] at hk hk2
      subst hk
      subst hk2
      rw [hg1] at hg2
      injection hg2 with h; injection h with _ h
      exact hne h
theorem own_grown {base size n : Nat} {e : TypeId} {v : Value} {xs : List Value} {row : Option Nat} (ho : w.ownsRow base e size v n xs) (hg : w.grownBy w' row) (hx : ∀ k, v.ownBlock = some k → row ≠ some k) : w'.ownsRow base e size v n xs := by
  refine ho.kept hg ?_
  cases hv : v.ownBlock with
  | none => exact .inl rfl
  | some k => exact .inr (fun he => hx k hv he.symm)
theorem own_box {base size n g : Nat} {e : TypeId} {v : Value} {xs : List Value} {cs : Array Value} {t : TypeId} {fr : Nat × Nat} (ho : w.ownsRow base e size v n xs) (he : e ∈ rowTys) (hk : w.heap[g]? = some (.cells cs t fr)) (ht : t ∉ rowTys) (hg : w.grownBy w' (some g)) : w'.ownsRow base e size v n xs := by
  refine own_grown ho hg ?_
  intro k hk2 he2
  injection he2 with he2
  subst he2
  rcases ho.2 with ⟨rfl, _⟩ | ⟨g1, _, _, rfl, _, hg1, _⟩
  · simp [Value.ownBlock] at hk2
  · simp [Value.ownBlock] at hk2
    subst hk2
    rw [hk] at hg1
    injection hg1 with q; injection q with _ q
    subst q
    exact ht he
structure Boxy (w w' : World) : Prop where
  size : w.heap.size ≤ w'.heap.size
  block : ∀ k, k < w.heap.size → ¬ boxAt w k → w'.heap[k]? = w.heap[k]?
theorem Boxy.refl (w : World) : Boxy w w := ⟨Nat.le_refl _, fun _ _ _ => rfl⟩
theorem Boxy.setCell (h : Boxy w w') {p : Addr} (hp : boxAt w p.block ∨ w.heap.size ≤ p.block) (u : Value) : Boxy w (w'.setCell p u) :=
  ⟨by simpa [World.setCell] using h.size, fun k hk hn => (Below.heap_setCell _ _ _ _ (by
    rintro rfl
    rcases hp with hp | hp
    · exact hn hp
    · omega)).trans (h.block k hk hn)⟩
theorem boxy {w w' : World} (h : Boxy w w' := by repeat (first | (with_reducible exact Boxy.refl _) | (with_reducible refine Boxy.drew ?_) | (with_reducible refine Boxy.drewN ?_ _) | (with_reducible refine Boxy.alloc ?_ _) | ((with_reducible refine Boxy.setCell ?_ ?hbs _); (case hbs => first | (with_reducible exact .inl (by assumption)) | exact .inl (by assumption) | exact .inr (by simp) | exact .inr (by simp; omega))))) : Boxy w w' := h
theorem own_boxy {base size n : Nat} {e : TypeId} {v : Value} {xs : List Value} (ho : w.ownsRow base e size v n xs) (he : e ∈ rowTys) (h : Boxy w w') : w'.ownsRow base e size v n xs := by
  refine ⟨ho.1, ?_⟩
  rcases ho.2 with hn | ⟨g, cap, cur, rfl, hb, hg, rest⟩
  · exact .inl hn
  · refine .inr ⟨g, cap, cur, rfl, hb, (h.block g (blk_lt hg) ?_).trans hg, rest⟩
    rintro ⟨cs, t, fr, hq, ht⟩
    rw [hg] at hq
    injection hq with q; injection q with _ q
    subst q
    exact ht he
theorem boxAt_of {g : Nat} {cs : Array Value} {t : TypeId} {fr : Nat × Nat} (h : w.heap[g]? = some (.cells cs t fr)) (ht : t ∉ rowTys := by decide) : boxAt w g := ⟨cs, t, fr, h, ht⟩
end
structure OwnS (w : World) (lo hi : Nat) (A : Option Addr) (c : Nat) (ss : List ByteArray) : Prop where
  row : w.ownsRow lo 9 1 (.slice A ss.length c) ss.length (ss.map Value.string)
  top : ∀ k, (Value.slice A ss.length c).ownBlock = some k → k < hi
section
variable {lo hi lo' hi' : Nat} {w w' : World} {A : Option Addr} {c : Nat} {ss : List ByteArray}
theorem OwnS.within {l h : Nat} (ho : OwnS w lo hi A c ss) (hW : Within l h w w') (hd : hi ≤ l ∨ h ≤ lo) : OwnS w' lo hi A c ss :=
  ⟨own_within ho.row hW (fun k hk => by have h1 := ho.top k hk; have h2 := (ho.row.lt k hk).1; omega), ho.top⟩
theorem OwnS.below (ho : OwnS w lo hi A c ss) (hb : Below w.heap.size w w') : OwnS w' lo hi A c ss := ⟨own_below ho.row hb, ho.top⟩
theorem OwnS.box {g : Nat} {cs : Array Value} {t : TypeId} {fr : Nat × Nat} (ho : OwnS w lo hi A c ss) (hk : w.heap[g]? = some (.cells cs t fr)) (ht : t ∉ rowTys) (hg : w.grownBy w' (some g)) : OwnS w' lo hi A c ss := ⟨own_box ho.row (by decide) hk ht hg, ho.top⟩
theorem OwnS.boxy (ho : OwnS w lo hi A c ss) (h : Boxy w w') : OwnS w' lo hi A c ss := ⟨own_boxy ho.row (by decide) h, ho.top⟩
theorem OwnS.alloc (ho : OwnS w lo hi A c ss) (o : Obj) : OwnS (w.alloc o) lo hi A c ss := ⟨ho.row.alloc _, ho.top⟩
theorem OwnS.wide (ho : OwnS w lo hi A c ss) (h1 : lo' ≤ lo) (h2 : hi ≤ hi') : OwnS w lo' hi' A c ss := ⟨own_base ho.row h1, fun k hk => by have := ho.top k hk; omega⟩
theorem OwnS.of (ho : w.ownsRow lo 9 1 (.slice A ss.length c) ss.length (ss.map Value.string)) (h : w.heap.size ≤ hi) : OwnS w lo hi A c ss := ⟨ho, fun k hk => by have := (ho.lt k hk).2; omega⟩
theorem OwnS.rd (ho : OwnS w lo hi A c ss) (hn : ss.length ≤ 16777216) (hs : ∀ s ∈ ss, s.size ≤ 16777216) : Strs w w.heap.size A ss.length ss := strs_of_own ho.row hn hs
end
theorem blk_other {w : World} {g : Nat} {p : Addr} {o : Obj} (h : w.heap[g]? = some o) (hne : g ≠ p.block) (u : Value) : (w.setCell p u).heap[g]? = some o := (Below.heap_setCell _ _ _ _ hne).trans h
end Go.Proofs.YtlimlolciekimaaGreatDoor
namespace Go.Proofs.YtlimlolciekimaaGreatDoor
open Go.ChangeShapes Go.WideShapes Go.ChangeAt Go.RowKit
set_option linter.unusedVariables false
set_option maxRecDepth 10000
def OkS (ss : List ByteArray) (m : Nat) : Prop := ss.length ≤ m ∧ ∀ s ∈ ss, s.size ≤ 16777216
theorem OkS.more {ss : List ByteArray} {m k : Nat} (h : OkS ss m) (hk : m ≤ k) : OkS ss k := ⟨by have := h.1; omega, h.2⟩
def UCard (d f : Int) (ss : List ByteArray) (w : World) (e : Ending) (w' : World) : Prop :=
  ∃ A c, e = .returned (.agg #[.int .i64 d, .int .i64 f, .slice A ss.length c]) ∧ OwnS w' w.heap.size w'.heap.size A c ss ∧ Below w.heap.size w w'
def UCardB (d f : Int) (ss : List ByteArray) (b : Bool) (w : World) (e : Ending) (w' : World) : Prop :=
  ∃ A c, e = .returned (.tuple #[.agg #[.int .i64 d, .int .i64 f, .slice A ss.length c], .bool b]) ∧ OwnS w' w.heap.size w'.heap.size A c ss ∧ Below w.heap.size w w'
structure MkS (w : World) (lo hi : Nat) (A : Option Addr) (c : Nat) (k : Int) (n : Nat) : Prop where
  row : w.ownsRow lo 9 1 (.slice A n c) n (marks k n)
  top : ∀ k, (Value.slice A n c).ownBlock = some k → k < hi
section
variable {lo hi : Nat} {w w' : World} {A : Option Addr} {c n : Nat} {k : Int}
theorem MkS.below (h : MkS w lo hi A c k n) (hb : Below w.heap.size w w') : MkS w' lo hi A c k n := ⟨own_below h.row hb, h.top⟩
end
end Go.Proofs.YtlimlolciekimaaGreatDoor
namespace Go.Proofs.YtlimlolciekimaaGreatDoor
open Go.ChangeShapes Go.WideShapes Go.ChangeAt Go.RowKit
set_option linter.unusedVariables false
set_option maxRecDepth 10000
theorem info_stepCells : (Tryz.prog.info? 167).map (fun i => (i.zero, i.size, i.bytes)) = some (some (.agg #[.int .i64 0, .int .i64 0, .int .i64 0, .int .i64 0, .int .i64 0, .string ByteArray.empty, .string ByteArray.empty]), 7, 72) := by kernel_rfl
set_option maxHeartbeats 1600000 in
theorem l_eqStep_same (K F L T I : Int) (b a : ByteArray) (w : World) : Calls Tryz.prog 155 #[.agg #[.int .i64 K, .int .i64 F, .int .i64 L, .int .i64 T, .int .i64 I, .string b, .string a], .agg #[.int .i64 K, .int .i64 F, .int .i64 L, .int .i64 T, .int .i64 I, .string b, .string a]] w fun e w' => e = .returned (.bool true) ∧ Below w.heap.size w w' := by
  have hbq_b := beq_toList_true (rfl : b = b)
  have hbq_a := beq_toList_true (rfl : a = a)
  go_enter Tryz.func155, Tryz.ntmps155
  go_wp2_with (go_at_call 207; refine (l_eqBox_same _ _ _ _).mono ?_; rintro e w1 ⟨rfl, hb1⟩; obtain ⟨hcb, hfb⟩ := bcell hb1; have hz_w1_0 : w.heap.size < w1.heap.size := (by have hzz := hb1.size; (try simp at hzz); omega); have hy_w1_0 := Nat.le_of_lt hz_w1_0; have hz_w1_1 : w.heap.size + 1 < w1.heap.size := (by have hzz := hb1.size; (try simp at hzz); omega); have hy_w1_1 := Nat.le_of_lt hz_w1_1)
  go_ret
  exact ⟨rfl, bel⟩
def FreshSteps (base : Nat) (l : List PStep) (w : World) (e : Ending) (w' : World) : Prop :=
  ∃ A c, e = .returned (.slice A l.length c) ∧ w'.ownsRow base 167 7 (.slice A l.length c) l.length (l.flatMap stepCells) ∧ Below w.heap.size w w'
set_option maxHeartbeats 1600000 in
theorem l_toStepS (B : Nat) (A : Option Addr) (n c : Nat) (l : List PStep) (w : World) (hS : Steps w B A n l) (hB : B ≤ w.heap.size) :
    Calls Tryz.prog 99 #[.slice A n c] w (FreshSteps w.heap.size l w) := by
  have hn := hS.nb
  have hl := hS.len
  have HL := Lib.hid hl
  clear hl
  obtain ⟨i0, hi0, hz0, hz1, hz2⟩ := info_parts info_stepCells
  have hmk := run_make_rowN (P := Tryz.prog) 27 167 i0 _ Tryz.underlying27 hi0 hz0 .i64 .i64 n n (Nat.le_refl _) (by rw [hz2]; omega) (by omega) w
  rw [hz1] at hmk
  go_enter Tryz.func99, Tryz.ntmps99
  go_wp2
  go_loopw [4] (fun i wr => ∃ j : Nat, j ≤ n ∧ i = .int .i64 j ∧ wr.ownsRow w.heap.size 167 7 (.slice (some ⟨w.heap.size, 0, none⟩) n n) n ((l.take j).flatMap stepCells ++ reps [.int .i64 0, .int .i64 0, .int .i64 0, .int .i64 0, .int .i64 0, .string ByteArray.empty, .string ByteArray.empty] (n - j)) ∧ Below w.heap.size w wr) (fun i _ => n - (intOf i).toNat)
  case atStart =>
    refine ⟨0, Nat.zero_le _, rfl, ?_, bel⟩
    have h := World.ownsRow_lit (w := w) (base := w.heap.size) (e := 167) (size := 7) (madeCells #[Value.int .i64 0, .int .i64 0, .int .i64 0, .int .i64 0, .int .i64 0, .string ByteArray.empty, .string ByteArray.empty] (n * 7)) n (Nat.le_refl _) (by unfold maxLen; omega) (by simp [madeCells])
    have hm := made_reps [Value.int .i64 0, .int .i64 0, .int .i64 0, .int .i64 0, .int .i64 0, .string ByteArray.empty, .string ByteArray.empty] n (by simp)
    rw [show (madeCells #[Value.int .i64 0, .int .i64 0, .int .i64 0, .int .i64 0, .int .i64 0, .string ByteArray.empty, .string ByteArray.empty] (n * 7)).toList = reps [Value.int .i64 0, .int .i64 0, .int .i64 0, .int .i64 0, .int .i64 0, .string ByteArray.empty, .string ByteArray.empty] n from hm] at h
    simpa using h
  case round =>
    obtain ⟨j, hj, rfl, hown, hb⟩ := hrel
    by_cases hlt : j < n
    · obtain ⟨hk1, ad, rfl, hab, hc0, hc1, hc2, hc3, hc4, hc5, hc6, hsb, hsa⟩ := (hS.below (hb.mono hB)).at_ hlt
      have hjn : j * 7 + 7 ≤ n * 7 := by omega
      go_wp2_with (go_at_call 154; refine (l_toStep _ _ _ _ _ _ _ _).mono ?_; rintro e w1 ⟨rfl, hb1⟩; have ho1 := own_below hown hb1; obtain ⟨u0, hu0⟩ := own_cellk ho1 (j * 7) (by omega); have hf0 := ho1.frozenAt (j * 7); obtain ⟨u1, hu1⟩ := own_cellk ho1 (j * 7 + 1) (by omega); have hf1 := ho1.frozenAt (j * 7 + 1); obtain ⟨u2, hu2⟩ := own_cellk ho1 (j * 7 + 2) (by omega); have hf2 := ho1.frozenAt (j * 7 + 2); obtain ⟨u3, hu3⟩ := own_cellk ho1 (j * 7 + 3) (by omega); have hf3 := ho1.frozenAt (j * 7 + 3); obtain ⟨u4, hu4⟩ := own_cellk ho1 (j * 7 + 4) (by omega); have hf4 := ho1.frozenAt (j * 7 + 4); obtain ⟨u5, hu5⟩ := own_cellk ho1 (j * 7 + 5) (by omega); have hf5 := ho1.frozenAt (j * 7 + 5); obtain ⟨u6, hu6⟩ := own_cellk ho1 (j * 7 + 6) (by omega); have hf6 := ho1.frozenAt (j * 7 + 6))
      go_roundw
      case rel =>
        have hst0 := ho1.stored (j * 7) (.int .i64 l[j].K)
        have hst1 := hst0.1.stored (j * 7 + 1) (.int .i64 l[j].F)
        have hst2 := hst1.1.stored (j * 7 + 2) (.int .i64 l[j].L)
        have hst3 := hst2.1.stored (j * 7 + 3) (.int .i64 l[j].T)
        have hst4 := hst3.1.stored (j * 7 + 4) (.int .i64 l[j].I)
        have hst5 := hst4.1.stored (j * 7 + 5) (.string l[j].b)
        have hst6 := hst5.1.stored (j * 7 + 6) (.string l[j].a)
        have hgr := only_trans ( only_trans ( only_trans ( only_trans ( only_trans ( only_trans (hst0.2) hst1.2) hst2.2) hst3.2) hst4.2) hst5.2) hst6.2
        refine ⟨j + 1, by omega, by go_num, ?_, only_below_B (hb.trans (hb1.mono hb.size)) hgr⟩
        have ho2 := hst6.1
        have hA : ((l.take j).flatMap stepCells).length = j * 7 := by rw [flat_len stepCells_len, List.length_take, Nat.min_eq_left (by omega)]
        have hR : reps [.int .i64 0, .int .i64 0, .int .i64 0, .int .i64 0, .int .i64 0, .string ByteArray.empty, .string ByteArray.empty] (n - j) = [.int .i64 0, .int .i64 0, .int .i64 0, .int .i64 0, .int .i64 0, .string ByteArray.empty, .string ByteArray.empty] ++ reps [.int .i64 0, .int .i64 0, .int .i64 0, .int .i64 0, .int .i64 0, .string ByteArray.empty, .string ByteArray.empty] (n - (j + 1)) := by rw [show n - j = (n - (j + 1)) + 1 from by omega, reps_succ]
        rw [hR, set7 _ _ (j * 7) hA, ← List.append_assoc] at ho2
        have hT : (l.take (j + 1)).flatMap stepCells = (l.take j).flatMap stepCells ++ [.int .i64 l[j].K, .int .i64 l[j].F, .int .i64 l[j].L, .int .i64 l[j].T, .int .i64 l[j].I, .string l[j].b, .string l[j].a] := by rw [List.take_succ_eq_append_getElem hk1, flat_snoc]; rfl
        rw [hT]; exact ho2
      case measure => simp [intOf]; omega
    · have hjn : j = n := by omega
      subst hjn
      have hE : (l.take j).flatMap stepCells ++ reps [.int .i64 0, .int .i64 0, .int .i64 0, .int .i64 0, .int .i64 0, .string ByteArray.empty, .string ByteArray.empty] (j - j) = l.flatMap stepCells := by
        rw [List.take_of_length_le (by have := HL.out; omega)]; simp [reps]
      rw [hE] at hown
      clear hE
      have HO := hide hown
      clear hown
      go_wp2
      go_ret
      have hl := HL.out
      subst hl
      exact ⟨_, _, rfl, unhide HO, hb⟩
set_option maxHeartbeats 1600000 in
theorem l_eqStepS_same (B : Nat) (A1 A2 : Option Addr) (n c1 c2 : Nat) (l : List PStep) (w : World) (h1 : Steps w B A1 n l) (h2 : Steps w B A2 n l) (hB : B ≤ w.heap.size) :
    Calls Tryz.prog 103 #[.slice A1 n c1, .slice A2 n c2] w fun e w' => e = .returned (.bool true) ∧ Below w.heap.size w w' := by
  have hn := h1.nb
  go_enter Tryz.func103, Tryz.ntmps103
  go_wp2
  go_loopw [5] (fun i wr => ∃ j : Nat, j ≤ n ∧ i = .int .i64 j ∧ Below w.heap.size w wr) (fun i _ => n - (intOf i).toNat)
  case atStart => exact ⟨0, Nat.zero_le _, rfl, Below.refl _ _⟩
  case round =>
    obtain ⟨j, hj, rfl, hb⟩ := hrel
    have hzr := hb.size
    by_cases hlt : j < n
    · obtain ⟨hk1, ad1, rfl, hab1, ha0, ha1, ha2, ha3, ha4, ha5, ha6, hsab, hsaa⟩ := (h1.below (hb.mono hB)).at_ hlt
      obtain ⟨hk2, ad2, rfl, hab2, hc0, hc1, hc2, hc3, hc4, hc5, hc6, hscb, hsca⟩ := (h2.below (hb.mono hB)).at_ hlt
      have hq1 : (ad1.add (j * 7)).block < wr.heap.size := by rw [block_of_add]; omega
      have hq2 : (ad2.add (j * 7)).block < wr.heap.size := by rw [block_of_add]; omega
      go_wp2
      go_region_held3 (fun W => (∀ p : Addr, p.block < wr.heap.size → W.cell? p = (wr).cell? p) ∧ (∀ p : Addr, p.block < wr.heap.size → W.frozen? p = (wr).frozen? p) ∧ Below (wr.heap.size) (wr) W) (exact keep_ofP bel) ((go_at_call 155; refine (l_eqStep_same _ _ _ _ _ _ _ _).mono ?_; rintro e w3 ⟨rfl, hb3⟩))
      have hb3' : Below wr.heap.size wr w3 := (Below.refl _ _).drew.trans hb3
      go_wp2
      go_roundw
      case rel => exact ⟨j + 1, by omega, by go_num, hb.trans (hb3'.mono hzr)⟩
      case measure => simp [intOf]; omega
    · go_wp2
      go_ret
      exact ⟨rfl, hb⟩
def mkStep (k : Int) : List Value := [.int .i64 (k), .int .i64 (k + 1), .int .i64 (k + 1 + 1), .int .i64 (k + 1 + 1 + 1), .int .i64 (k + 1 + 1 + 1 + 1), .string (markT (k + 1 + 1 + 1 + 1 + 1)), .string (markT (k + 1 + 1 + 1 + 1 + 1 + 1))]
theorem mkStep_len (k : Int) : (mkStep k).length = 7 := rfl
def marksStep (k : Int) (n : Nat) : List Value := (List.range n).flatMap fun (i : Nat) => mkStep (k + 7 * (i : Int))
theorem marksStep_len (k : Int) (n : Nat) : (marksStep k n).length = n * 7 := by unfold marksStep; rw [flat_len (fun (i : Nat) => mkStep_len _)]; simp
theorem marksStep_succ (k : Int) (n : Nat) : marksStep k (n + 1) = marksStep k n ++ mkStep (k + 7 * (n : Int)) := by unfold marksStep; rw [List.range_succ, flat_snoc]
theorem drop_rowStep (xs : List Value) (n j : Nat) (hx : xs.length = n * 7) (hj : j < n) : ∃ z0 z1 z2 z3 z4 z5 z6 : Value, xs.drop (j * 7) = [z0, z1, z2, z3, z4, z5, z6] ++ xs.drop ((j + 1) * 7) := by
  have hlt : j * 7 + 7 ≤ xs.length := by rw [hx]; omega
  refine ⟨xs[j * 7], xs[j * 7 + 1], xs[j * 7 + 2], xs[j * 7 + 3], xs[j * 7 + 4], xs[j * 7 + 5], xs[j * 7 + 6], ?_⟩
  rw [show (j + 1) * 7 = j * 7 + 7 by omega]
  rw [List.drop_eq_getElem_cons (show j * 7 < xs.length by omega), List.drop_eq_getElem_cons (show j * 7 + 1 < xs.length by omega), List.drop_eq_getElem_cons (show j * 7 + 2 < xs.length by omega), List.drop_eq_getElem_cons (show j * 7 + 3 < xs.length by omega), List.drop_eq_getElem_cons (show j * 7 + 4 < xs.length by omega), List.drop_eq_getElem_cons (show j * 7 + 5 < xs.length by omega), List.drop_eq_getElem_cons (show j * 7 + 6 < xs.length by omega)]
  rfl
set_option maxHeartbeats 1600000 in
theorem l_markStepS (base : Nat) (A : Option Addr) (n c c' : Nat) (xs : List Value) (k : Int) (w : World) (hO : w.ownsRow base 167 7 (.slice A n c) n xs) (hk0 : 0 ≤ k) (hk1 : k ≤ 4503599627370496) (hn : n ≤ 16777216) :
    Calls Tryz.prog 107 #[.slice A n c', .int .i64 k] w fun e w' => e = .returned (.int .i64 (k + 7 * (n : Int))) ∧ w'.ownsRow base 167 7 (.slice A n c) n (marksStep k n) ∧ w.grownBy w' (Value.slice A n c).ownBlock := by
  go_enter Tryz.func107, Tryz.ntmps107
  go_wp2
  go_loopw [1, 5] (fun q i wr => ∃ j : Nat, j ≤ n ∧ i = .int .i64 j ∧ q = .int .i64 (k + 7 * (j : Int)) ∧ wr.ownsRow base 167 7 (.slice A n c) n (marksStep k j ++ xs.drop (j * 7)) ∧ w.grownBy wr (Value.slice A n c).ownBlock) (fun _ i _ => n - (intOf i).toNat)
  case atStart => exact ⟨0, Nat.zero_le _, rfl, by simp, by simpa [marksStep] using hO, World.grownBy.refl w _⟩
  case round =>
    obtain ⟨j, hj, rfl, rfl, hown, hg⟩ := hrel
    have hxl : xs.length = n * 7 := hO.1
    have HX := Lib.hid hxl
    clear hxl
    by_cases hlt : j < n
    · obtain ⟨g, cap, hv, hbg, hglt⟩ := hown.form (by omega)
      have hA : A = some ⟨g, 0, none⟩ := by injection hv
      subst hA
      clear hv
      obtain ⟨z0, z1, z2, z3, z4, z5, z6, hz⟩ := drop_rowStep xs n j HX.out hlt
      have HZ := Lib.hid hz
      clear hz
      have hjn : j * 7 + 7 ≤ n * 7 := by omega
      obtain ⟨u0, hu0⟩ := own_cellk hown (j * 7) (by omega); have hf0 := hown.frozenAt (j * 7); obtain ⟨u1, hu1⟩ := own_cellk hown (j * 7 + 1) (by omega); have hf1 := hown.frozenAt (j * 7 + 1); obtain ⟨u2, hu2⟩ := own_cellk hown (j * 7 + 2) (by omega); have hf2 := hown.frozenAt (j * 7 + 2); obtain ⟨u3, hu3⟩ := own_cellk hown (j * 7 + 3) (by omega); have hf3 := hown.frozenAt (j * 7 + 3); obtain ⟨u4, hu4⟩ := own_cellk hown (j * 7 + 4) (by omega); have hf4 := hown.frozenAt (j * 7 + 4); obtain ⟨u5, hu5⟩ := own_cellk hown (j * 7 + 5) (by omega); have hf5 := hown.frozenAt (j * 7 + 5); obtain ⟨u6, hu6⟩ := own_cellk hown (j * 7 + 6) (by omega); have hf6 := hown.frozenAt (j * 7 + 6)
      go_wp2_with fail
      have hst0 := (hown).stored (j * 7) (.int .i64 (k + 7 * (j : Int)))
      have hgr0 := only_trans hg hst0.2
      have hst1 := (hst0.1).stored (j * 7 + 1) (.int .i64 (k + 7 * (j : Int) + 1))
      have hgr1 := only_trans hgr0 hst1.2
      have hst2 := (hst1.1).stored (j * 7 + 2) (.int .i64 (k + 7 * (j : Int) + 1 + 1))
      have hgr2 := only_trans hgr1 hst2.2
      have hst3 := (hst2.1).stored (j * 7 + 3) (.int .i64 (k + 7 * (j : Int) + 1 + 1 + 1))
      have hgr3 := only_trans hgr2 hst3.2
      have hst4 := (hst3.1).stored (j * 7 + 4) (.int .i64 (k + 7 * (j : Int) + 1 + 1 + 1 + 1))
      have hgr4 := only_trans hgr3 hst4.2
      refine (l_markText (k + 7 * (j : Int) + 1 + 1 + 1 + 1 + 1) _ (by omega) (by omega)).mono ?_
      rintro e w1 ⟨rfl, hb1⟩
      have ho1 := own_below (hst4.1) hb1
      have hgb1 := only_below hgr4 hb1
      obtain ⟨uw1_0, huw1_0⟩ := own_cellk ho1 (j * 7) (by omega); have hfw1_0 := ho1.frozenAt (j * 7); obtain ⟨uw1_1, huw1_1⟩ := own_cellk ho1 (j * 7 + 1) (by omega); have hfw1_1 := ho1.frozenAt (j * 7 + 1); obtain ⟨uw1_2, huw1_2⟩ := own_cellk ho1 (j * 7 + 2) (by omega); have hfw1_2 := ho1.frozenAt (j * 7 + 2); obtain ⟨uw1_3, huw1_3⟩ := own_cellk ho1 (j * 7 + 3) (by omega); have hfw1_3 := ho1.frozenAt (j * 7 + 3); obtain ⟨uw1_4, huw1_4⟩ := own_cellk ho1 (j * 7 + 4) (by omega); have hfw1_4 := ho1.frozenAt (j * 7 + 4); obtain ⟨uw1_5, huw1_5⟩ := own_cellk ho1 (j * 7 + 5) (by omega); have hfw1_5 := ho1.frozenAt (j * 7 + 5); obtain ⟨uw1_6, huw1_6⟩ := own_cellk ho1 (j * 7 + 6) (by omega); have hfw1_6 := ho1.frozenAt (j * 7 + 6)
      go_wp2_with fail
      have hst5 := (ho1).stored (j * 7 + 5) (.string (markT (k + 7 * (j : Int) + 1 + 1 + 1 + 1 + 1)))
      have hgr5 := only_trans hgb1 hst5.2
      refine (l_markText (k + 7 * (j : Int) + 1 + 1 + 1 + 1 + 1 + 1) _ (by omega) (by omega)).mono ?_
      rintro e w2 ⟨rfl, hb2⟩
      have ho2 := own_below (hst5.1) hb2
      have hgb2 := only_below hgr5 hb2
      obtain ⟨uw2_0, huw2_0⟩ := own_cellk ho2 (j * 7) (by omega); have hfw2_0 := ho2.frozenAt (j * 7); obtain ⟨uw2_1, huw2_1⟩ := own_cellk ho2 (j * 7 + 1) (by omega); have hfw2_1 := ho2.frozenAt (j * 7 + 1); obtain ⟨uw2_2, huw2_2⟩ := own_cellk ho2 (j * 7 + 2) (by omega); have hfw2_2 := ho2.frozenAt (j * 7 + 2); obtain ⟨uw2_3, huw2_3⟩ := own_cellk ho2 (j * 7 + 3) (by omega); have hfw2_3 := ho2.frozenAt (j * 7 + 3); obtain ⟨uw2_4, huw2_4⟩ := own_cellk ho2 (j * 7 + 4) (by omega); have hfw2_4 := ho2.frozenAt (j * 7 + 4); obtain ⟨uw2_5, huw2_5⟩ := own_cellk ho2 (j * 7 + 5) (by omega); have hfw2_5 := ho2.frozenAt (j * 7 + 5); obtain ⟨uw2_6, huw2_6⟩ := own_cellk ho2 (j * 7 + 6) (by omega); have hfw2_6 := ho2.frozenAt (j * 7 + 6)
      go_wp2
      have hst6 := (ho2).stored (j * 7 + 6) (.string (markT (k + 7 * (j : Int) + 1 + 1 + 1 + 1 + 1 + 1)))
      have hgr6 := only_trans hgb2 hst6.2
      go_roundw
      case rel =>
        refine ⟨j + 1, by omega, by go_num, by congr 1; omega, ?_, hgr6⟩
        have ho9 := hst6.1
        rw [HZ.out, set7 _ _ (j * 7) (marksStep_len _ _), ← List.append_assoc] at ho9
        rw [marksStep_succ]; exact ho9
      case measure => simp [intOf]; omega
    · have hjn : j = n := by omega
      subst hjn
      have hd : xs.drop (j * 7) = [] := List.drop_eq_nil_of_le (by have := HX.out; omega)
      rw [hd, List.append_nil] at hown
      clear hd
      go_wp2
      go_ret
      exact ⟨rfl, hown, hg⟩
end Go.Proofs.YtlimlolciekimaaGreatDoor
namespace Go.Proofs.YtlimlolciekimaaGreatDoor
open Go.ChangeShapes Go.WideShapes Go.ChangeAt Go.RowKit
set_option linter.unusedVariables false
set_option maxRecDepth 10000
set_option maxHeartbeats 400000 in
theorem l_toPaper (k a b : Int) (w : World) : Calls Tryz.prog 101 #[.agg #[.int .i64 k, .int .i64 a, .int .i64 b]] w fun e w' => e = .returned (.agg #[.int .i64 k, .int .i64 a, .int .i64 b]) ∧ Below w.heap.size w w' := by
  go_enter Tryz.func101, Tryz.ntmps101
  go_wp2
  refine bodyPost_ret (v := .agg #[.int .i64 k, .int .i64 a, .int .i64 b]) (by simp [results, Tryz.results101, go_sem]) rfl ?_
  exact ⟨rfl, bel⟩
end Go.Proofs.YtlimlolciekimaaGreatDoor
namespace Go.Proofs.YtlimlolciekimaaGreatDoor
open Go.ChangeShapes Go.WideShapes Go.ChangeAt Go.RowKit
set_option linter.unusedVariables false
set_option maxRecDepth 10000
theorem info_paperCells : (Tryz.prog.info? 105).map (fun i => (i.zero, i.size, i.bytes)) = some (some (.agg #[.int .i64 0, .int .i64 0, .int .i64 0]), 3, 24) := by kernel_rfl
set_option maxHeartbeats 1600000 in
theorem l_eqPaper_same (k g s : Int) (w : World) : Calls Tryz.prog 105 #[.agg #[.int .i64 k, .int .i64 g, .int .i64 s], .agg #[.int .i64 k, .int .i64 g, .int .i64 s]] w fun e w' => e = .returned (.bool true) ∧ Below w.heap.size w w' := by
  go_enter Tryz.func105, Tryz.ntmps105
  go_wp2
  go_ret
  exact ⟨rfl, bel⟩
def FreshPapers (base : Nat) (l : List PPaper) (w : World) (e : Ending) (w' : World) : Prop :=
  ∃ A c, e = .returned (.slice A l.length c) ∧ w'.ownsRow base 105 3 (.slice A l.length c) l.length (l.flatMap paperCells) ∧ Below w.heap.size w w'
set_option maxHeartbeats 1600000 in
theorem l_toPaperS (B : Nat) (A : Option Addr) (n c : Nat) (l : List PPaper) (w : World) (hS : Papers w B A n l) (hB : B ≤ w.heap.size) :
    Calls Tryz.prog 53 #[.slice A n c] w (FreshPapers w.heap.size l w) := by
  have hn := hS.nb
  have hl := hS.len
  have HL := Lib.hid hl
  clear hl
  obtain ⟨i0, hi0, hz0, hz1, hz2⟩ := info_parts info_paperCells
  have hmk := run_make_rowN (P := Tryz.prog) 31 105 i0 _ Tryz.underlying31 hi0 hz0 .i64 .i64 n n (Nat.le_refl _) (by rw [hz2]; omega) (by omega) w
  rw [hz1] at hmk
  go_enter Tryz.func53, Tryz.ntmps53
  go_wp2
  go_loopw [4] (fun i wr => ∃ j : Nat, j ≤ n ∧ i = .int .i64 j ∧ wr.ownsRow w.heap.size 105 3 (.slice (some ⟨w.heap.size, 0, none⟩) n n) n ((l.take j).flatMap paperCells ++ reps [.int .i64 0, .int .i64 0, .int .i64 0] (n - j)) ∧ Below w.heap.size w wr) (fun i _ => n - (intOf i).toNat)
  case atStart =>
    refine ⟨0, Nat.zero_le _, rfl, ?_, bel⟩
    have h := World.ownsRow_lit (w := w) (base := w.heap.size) (e := 105) (size := 3) (madeCells #[Value.int .i64 0, .int .i64 0, .int .i64 0] (n * 3)) n (Nat.le_refl _) (by unfold maxLen; omega) (by simp [madeCells])
    have hm := made_reps [Value.int .i64 0, .int .i64 0, .int .i64 0] n (by simp)
    rw [show (madeCells #[Value.int .i64 0, .int .i64 0, .int .i64 0] (n * 3)).toList = reps [Value.int .i64 0, .int .i64 0, .int .i64 0] n from hm] at h
    simpa using h
  case round =>
    obtain ⟨j, hj, rfl, hown, hb⟩ := hrel
    by_cases hlt : j < n
    · obtain ⟨hk1, ad, rfl, hab, hc0, hc1, hc2⟩ := (hS.below (hb.mono hB)).at_ hlt
      have hjn : j * 3 + 3 ≤ n * 3 := by omega
      go_wp2_with (go_at_call 101; refine (l_toPaper _ _ _ _).mono ?_; rintro e w1 ⟨rfl, hb1⟩; have ho1 := own_below hown hb1; obtain ⟨u0, hu0⟩ := own_cellk ho1 (j * 3) (by omega); have hf0 := ho1.frozenAt (j * 3); obtain ⟨u1, hu1⟩ := own_cellk ho1 (j * 3 + 1) (by omega); have hf1 := ho1.frozenAt (j * 3 + 1); obtain ⟨u2, hu2⟩ := own_cellk ho1 (j * 3 + 2) (by omega); have hf2 := ho1.frozenAt (j * 3 + 2))
      go_roundw
      case rel =>
        have hst0 := ho1.stored (j * 3) (.int .i64 l[j].k)
        have hst1 := hst0.1.stored (j * 3 + 1) (.int .i64 l[j].g)
        have hst2 := hst1.1.stored (j * 3 + 2) (.int .i64 l[j].s)
        have hgr := only_trans ( only_trans (hst0.2) hst1.2) hst2.2
        refine ⟨j + 1, by omega, by go_num, ?_, only_below_B (hb.trans (hb1.mono hb.size)) hgr⟩
        have ho2 := hst2.1
        have hA : ((l.take j).flatMap paperCells).length = j * 3 := by rw [flat_len paperCells_len, List.length_take, Nat.min_eq_left (by omega)]
        have hR : reps [.int .i64 0, .int .i64 0, .int .i64 0] (n - j) = [.int .i64 0, .int .i64 0, .int .i64 0] ++ reps [.int .i64 0, .int .i64 0, .int .i64 0] (n - (j + 1)) := by rw [show n - j = (n - (j + 1)) + 1 from by omega, reps_succ]
        rw [hR, set3 _ _ (j * 3) hA, ← List.append_assoc] at ho2
        have hT : (l.take (j + 1)).flatMap paperCells = (l.take j).flatMap paperCells ++ [.int .i64 l[j].k, .int .i64 l[j].g, .int .i64 l[j].s] := by rw [List.take_succ_eq_append_getElem hk1, flat_snoc]; rfl
        rw [hT]; exact ho2
      case measure => simp [intOf]; omega
    · have hjn : j = n := by omega
      subst hjn
      have hE : (l.take j).flatMap paperCells ++ reps [.int .i64 0, .int .i64 0, .int .i64 0] (j - j) = l.flatMap paperCells := by
        rw [List.take_of_length_le (by have := HL.out; omega)]; simp [reps]
      rw [hE] at hown
      clear hE
      have HO := hide hown
      clear hown
      go_wp2
      go_ret
      have hl := HL.out
      subst hl
      exact ⟨_, _, rfl, unhide HO, hb⟩
set_option maxHeartbeats 1600000 in
theorem l_eqPaperS_same (B : Nat) (A1 A2 : Option Addr) (n c1 c2 : Nat) (l : List PPaper) (w : World) (h1 : Papers w B A1 n l) (h2 : Papers w B A2 n l) (hB : B ≤ w.heap.size) :
    Calls Tryz.prog 56 #[.slice A1 n c1, .slice A2 n c2] w fun e w' => e = .returned (.bool true) ∧ Below w.heap.size w w' := by
  have hn := h1.nb
  go_enter Tryz.func56, Tryz.ntmps56
  go_wp2
  go_loopw [5] (fun i wr => ∃ j : Nat, j ≤ n ∧ i = .int .i64 j ∧ Below w.heap.size w wr) (fun i _ => n - (intOf i).toNat)
  case atStart => exact ⟨0, Nat.zero_le _, rfl, Below.refl _ _⟩
  case round =>
    obtain ⟨j, hj, rfl, hb⟩ := hrel
    have hzr := hb.size
    by_cases hlt : j < n
    · obtain ⟨hk1, ad1, rfl, hab1, ha0, ha1, ha2⟩ := (h1.below (hb.mono hB)).at_ hlt
      obtain ⟨hk2, ad2, rfl, hab2, hc0, hc1, hc2⟩ := (h2.below (hb.mono hB)).at_ hlt
      have hq1 : (ad1.add (j * 3)).block < wr.heap.size := by rw [block_of_add]; omega
      have hq2 : (ad2.add (j * 3)).block < wr.heap.size := by rw [block_of_add]; omega
      go_wp2
      go_region_held3 (fun W => (∀ p : Addr, p.block < wr.heap.size → W.cell? p = (wr).cell? p) ∧ (∀ p : Addr, p.block < wr.heap.size → W.frozen? p = (wr).frozen? p) ∧ Below (wr.heap.size) (wr) W) (exact keep_ofP bel) ((go_at_call 105; refine (l_eqPaper_same _ _ _ _).mono ?_; rintro e w3 ⟨rfl, hb3⟩))
      have hb3' : Below wr.heap.size wr w3 := (Below.refl _ _).drew.trans hb3
      go_wp2
      go_roundw
      case rel => exact ⟨j + 1, by omega, by go_num, hb.trans (hb3'.mono hzr)⟩
      case measure => simp [intOf]; omega
    · go_wp2
      go_ret
      exact ⟨rfl, hb⟩
def mkPaper (k : Int) : List Value := [.int .i64 (k), .int .i64 (k + 1), .int .i64 (k + 1 + 1)]
theorem mkPaper_len (k : Int) : (mkPaper k).length = 3 := rfl
def marksPaper (k : Int) (n : Nat) : List Value := (List.range n).flatMap fun (i : Nat) => mkPaper (k + 3 * (i : Int))
theorem marksPaper_len (k : Int) (n : Nat) : (marksPaper k n).length = n * 3 := by unfold marksPaper; rw [flat_len (fun (i : Nat) => mkPaper_len _)]; simp
theorem marksPaper_succ (k : Int) (n : Nat) : marksPaper k (n + 1) = marksPaper k n ++ mkPaper (k + 3 * (n : Int)) := by unfold marksPaper; rw [List.range_succ, flat_snoc]
theorem drop_rowPaper (xs : List Value) (n j : Nat) (hx : xs.length = n * 3) (hj : j < n) : ∃ z0 z1 z2 : Value, xs.drop (j * 3) = [z0, z1, z2] ++ xs.drop ((j + 1) * 3) := by
  have hlt : j * 3 + 3 ≤ xs.length := by rw [hx]; omega
  refine ⟨xs[j * 3], xs[j * 3 + 1], xs[j * 3 + 2], ?_⟩
  rw [show (j + 1) * 3 = j * 3 + 3 by omega]
  rw [List.drop_eq_getElem_cons (show j * 3 < xs.length by omega), List.drop_eq_getElem_cons (show j * 3 + 1 < xs.length by omega), List.drop_eq_getElem_cons (show j * 3 + 2 < xs.length by omega)]
  rfl
set_option maxHeartbeats 1600000 in
theorem l_markPaperS (base : Nat) (A : Option Addr) (n c : Nat) (xs : List Value) (k : Int) (w : World) (hO : w.ownsRow base 105 3 (.slice A n c) n xs) (hk0 : 0 ≤ k) (hk1 : k ≤ 4503599627370496) (hn : n ≤ 16777216) :
    Calls Tryz.prog 59 #[.slice A n c, .int .i64 k] w fun e w' => e = .returned (.int .i64 (k + 3 * (n : Int))) ∧ w'.ownsRow base 105 3 (.slice A n c) n (marksPaper k n) ∧ w.grownBy w' (Value.slice A n c).ownBlock := by
  go_enter Tryz.func59, Tryz.ntmps59
  go_wp2
  go_loopw [1, 5] (fun q i wr => ∃ j : Nat, j ≤ n ∧ i = .int .i64 j ∧ q = .int .i64 (k + 3 * (j : Int)) ∧ wr.ownsRow base 105 3 (.slice A n c) n (marksPaper k j ++ xs.drop (j * 3)) ∧ w.grownBy wr (Value.slice A n c).ownBlock) (fun _ i _ => n - (intOf i).toNat)
  case atStart => exact ⟨0, Nat.zero_le _, rfl, by simp, by simpa [marksPaper] using hO, World.grownBy.refl w _⟩
  case round =>
    obtain ⟨j, hj, rfl, rfl, hown, hg⟩ := hrel
    have hxl : xs.length = n * 3 := hO.1
    have HX := Lib.hid hxl
    clear hxl
    by_cases hlt : j < n
    · obtain ⟨g, cap, hv, hbg, hglt⟩ := hown.form (by omega)
      have hA : A = some ⟨g, 0, none⟩ := by injection hv
      subst hA
      clear hv
      obtain ⟨z0, z1, z2, hz⟩ := drop_rowPaper xs n j HX.out hlt
      have HZ := Lib.hid hz
      clear hz
      have hjn : j * 3 + 3 ≤ n * 3 := by omega
      obtain ⟨u0, hu0⟩ := own_cellk hown (j * 3) (by omega); have hf0 := hown.frozenAt (j * 3); obtain ⟨u1, hu1⟩ := own_cellk hown (j * 3 + 1) (by omega); have hf1 := hown.frozenAt (j * 3 + 1); obtain ⟨u2, hu2⟩ := own_cellk hown (j * 3 + 2) (by omega); have hf2 := hown.frozenAt (j * 3 + 2)
      go_wp2
      have hst0 := (hown).stored (j * 3) (.int .i64 (k + 3 * (j : Int)))
      have hgr0 := only_trans hg hst0.2
      have hst1 := (hst0.1).stored (j * 3 + 1) (.int .i64 (k + 3 * (j : Int) + 1))
      have hgr1 := only_trans hgr0 hst1.2
      have hst2 := (hst1.1).stored (j * 3 + 2) (.int .i64 (k + 3 * (j : Int) + 1 + 1))
      have hgr2 := only_trans hgr1 hst2.2
      go_roundw
      case rel =>
        refine ⟨j + 1, by omega, by go_num, by congr 1; omega, ?_, hgr2⟩
        have ho9 := hst2.1
        rw [HZ.out, set3 _ _ (j * 3) (marksPaper_len _ _), ← List.append_assoc] at ho9
        rw [marksPaper_succ]; exact ho9
      case measure => simp [intOf]; omega
    · have hjn : j = n := by omega
      subst hjn
      have hd : xs.drop (j * 3) = [] := List.drop_eq_nil_of_le (by have := HX.out; omega)
      rw [hd, List.append_nil] at hown
      clear hd
      go_wp2
      go_ret
      exact ⟨rfl, hown, hg⟩
end Go.Proofs.YtlimlolciekimaaGreatDoor
