/- FnExactMakeCopies: the contracts behind it, part 2. -/
import Derived.Deep.RegionLaw
import Derived.Lib.Strings
import Derived.WalkLawsBesides
import Derived.WalkSpells
import Derived.Test.YtdddglihomchfaaGreatRows
import Derived.Test.YtdddglihomchfaaGreatQMakeCopiesa
namespace Go.Proofs.YtdddglihomchfaaGreat
open Go.ChangeShapes Go.WideShapes Go.ChangeAt Go.RowKit
set_option linter.unusedVariables false
set_option maxRecDepth 10000
def szSteps : List PStep → Int → Int
  | [], left => left
  | s :: l, left => if szStep s.b s.a left < 0 then -1 else szSteps l (szStep s.b s.a left)
def szStepL (l : List PStep) (left : Int) : Int := if left - l.length < 0 then -1 else szSteps l (left - l.length)
theorem szSteps_drop {l : List PStep} {j : Nat} (h : j < l.length) (q : Int) : szSteps (l.drop j) q = if szStep l[j].b l[j].a q < 0 then -1 else szSteps (l.drop (j + 1)) (szStep l[j].b l[j].a q) := by
  rw [List.drop_eq_getElem_cons h]; rfl
theorem szStep_ge (b a : ByteArray) (l : Int) : -1 ≤ szStep b a l := by unfold szStep; split <;> (first | omega | (split <;> omega))
theorem szSteps_ub (l : List PStep) : ∀ (q : Int), q ≤ 1048576 → szSteps l q ≤ 1048576 := by
  induction l with
  | nil => intro q h; exact h
  | cons s l ih => intro q h; simp only [szSteps]; split <;> (first | omega | exact ih _ (sz_ub_step _ _ _ h))
theorem szStepL_ub (l : List PStep) (q : Int) (h : q ≤ 1048576) : szStepL l q ≤ 1048576 := by
  unfold szStepL; split <;> (first | omega | exact szSteps_ub l _ (by omega))
theorem szSteps_mem (l : List PStep) : ∀ (q : Int), q ≤ 1048576 → 0 ≤ szSteps l q → ∀ s ∈ l, s.b.size ≤ 1048576 ∧ s.a.size ≤ 1048576 := by
  induction l with
  | nil => intro q _ _ s hs; cases hs
  | cons s l ih =>
    intro q hq h x hx
    simp only [szSteps] at h
    split at h
    · omega
    · rename_i h2
      rcases List.mem_cons.1 hx with rfl | hx
      · exact step_of_sz hq (by omega)
      · exact ih _ (sz_ub_step _ _ _ hq) h x hx
theorem steps_of_szl {W : World} {A : Option Addr} {n : Nat} {l : List PStep} {q : Int} (hR : Reads W W.heap.size 7 A n (l.flatMap stepCells)) (hq : q ≤ 1048576) (hz : 0 ≤ szStepL l q) : Steps W W.heap.size A n l ∧ n ≤ 1048576 := by
  have hl : l.length = n := by have := hR.1; rw [flat_len stepCells_len] at this; omega
  unfold szStepL at hz
  split at hz
  · omega
  · have hm := szSteps_mem l _ (by omega) hz
    exact ⟨⟨hR, by omega, fun s hs => by have := hm s hs; omega⟩, by omega⟩
set_option maxHeartbeats 1600000 in
theorem l_szStepS (B : Nat) (A : Option Addr) (n c : Nat) (l : List PStep) (left : Int) (w : World) (hR : Reads w B 7 A n (l.flatMap stepCells)) (hB : B ≤ w.heap.size) (hn : n ≤ 9223372036854775807) (hs : ∀ s ∈ l, s.b.size ≤ 9223372036854775807 ∧ s.a.size ≤ 9223372036854775807) (h0 : -1 ≤ left) (h1 : left ≤ 1048576) :
    Calls Tryz.prog 116 #[.slice A n c, .int .i64 left] w fun e w' => e = .returned (.int .i64 (szStepL l left)) ∧ Below w.heap.size w w' := by
  have hl : l.length = n := by have := hR.1; rw [flat_len stepCells_len] at this; omega
  by_cases hlt : left - n < 0
  · have HF : Hid (szStepL l left = -1) := by unfold Hid szStepL; rw [if_pos (by omega)]
    clear hl
    go_enter Tryz.func116, Tryz.ntmps116
    go_wp2
    go_ret
    exact ⟨ret_int HF.out.symm, bel⟩
  · have HF : Hid (szStepL l left = szSteps l (left - n)) := by unfold Hid szStepL; rw [if_neg (by omega), hl]
    have HL := Lib.hid hl
    have HS := hide hs
    clear hl hs
    go_enter Tryz.func116, Tryz.ntmps116
    go_wp2
    go_loopw [1, 5] (fun q i wr => ∃ (j : Nat) (x : Int), j ≤ n ∧ i = .int .i64 j ∧ q = .int .i64 x ∧ 0 ≤ x ∧ x ≤ 1048576 ∧ Hid (szSteps (l.drop j) x = szSteps l (left - n)) ∧ Below w.heap.size w wr) (fun _ i _ => n - (intOf i).toNat)
    case atStart => exact ⟨0, left - n, Nat.zero_le _, rfl, rfl, by omega, by omega, by unfold Hid; simp, Below.refl _ _⟩
    case round =>
      obtain ⟨j, x, hj, rfl, rfl, hx0, hx1, HX, hb⟩ := hrel
      have hzr := hb.size
      by_cases hjn : j < n
      · obtain ⟨hk1, ad, rfl, hab, hc0, hc1, hc2, hc3, hc4, hc5, hc6⟩ := stepCells_at (hR.below (hb.mono hB)) HL.out hjn
        have hsz := unhide HS _ (List.getElem_mem hk1)
        obtain ⟨hsz1, hsz2⟩ := hsz
        have HST := Lib.hid (szSteps_drop hk1 x)
        have hge := szStep_ge l[j].b l[j].a x
        have hub := sz_ub_step l[j].b l[j].a x (by omega)
        have hcon := fun (W : World) => l_szStep l[j].K l[j].F l[j].L l[j].T l[j].I l[j].b l[j].a x W hsz1 hsz2 (by omega) (by omega)
        have HCON := hide hcon
        clear hcon hsz1 hsz2
        generalize hy : szStep l[j].b l[j].a x = y at *
        clear hy
        by_cases hneg : y < 0
        · have HR : Hid (szSteps l (left - n) = -1) := by unfold Hid; rw [← HX.out, HST.out, if_pos hneg]
          go_wp2_with (first | (go_at_call 32; refine (unhide HCON _).mono ?_; rintro e w1 ⟨rfl, hb1⟩))
          go_ret
          exact ⟨ret_int (by rw [HF.out, HR.out]), bel⟩
        · have HR : Hid (szSteps (l.drop (j + 1)) y = szSteps l (left - n)) := by unfold Hid; rw [← HX.out, HST.out, if_neg hneg]
          go_wp2_with (first | (go_at_call 32; refine (unhide HCON _).mono ?_; rintro e w1 ⟨rfl, hb1⟩))
          go_roundw
          case rel => exact ⟨j + 1, y, by omega, by go_num, rfl, by omega, by omega, HR.out, bel⟩
          case measure => simp [intOf]; omega
      · have hjn' : j = n := by omega
        have hd : l.drop j = [] := List.drop_eq_nil_of_le (by have := HL.out; omega)
        have HR : Hid (szSteps l (left - n) = x) := by unfold Hid; rw [← HX.out, hd]; rfl
        subst hjn'
        clear hd
        go_wp2
        go_ret
        exact ⟨ret_int (by rw [HF.out, HR.out]), hb⟩
structure PDraft where
  (d1 f1 : Int)
  (ss1 : List ByteArray)
  (d2 f2 : Int)
  (ss2 : List ByteArray)
  (st : List PStep)
def szD (D : PDraft) (left : Int) : Int :=
  if szStrs D.ss1 left < 0 then -1 else if szStrs D.ss2 (szStrs D.ss1 left) < 0 then -1 else szStepL D.st (szStrs D.ss2 (szStrs D.ss1 left))
theorem szD_ub (D : PDraft) (l : Int) (h : l ≤ 1048576) : szD D l ≤ 1048576 := by
  unfold szD; split <;> (first | omega | (split <;> (first | omega | exact szStepL_ub _ _ (sz_ub _ _ (sz_ub _ _ h)))))
theorem szStrs_ge (ss : List ByteArray) (l : Int) : -1 ≤ szStrs ss l := by unfold szStrs; split <;> omega
theorem szStepL_ge (l : List PStep) (q : Int) (h : 0 ≤ q) : -1 ≤ szStepL l q := by
  have : ∀ (l : List PStep) (q : Int), 0 ≤ q → -1 ≤ szSteps l q := by
    intro l
    induction l with
    | nil => intro q h; simp only [szSteps]; omega
    | cons s l ih => intro q h; simp only [szSteps]; split <;> (first | omega | exact ih _ (by omega))
  unfold szStepL; split <;> (first | omega | exact this _ _ (by omega))
structure RdDraft (w : World) (B : Nat) (A1 A2 A3 : Option Addr) (D : PDraft) : Prop where
  s1 : Strs w B A1 D.ss1.length D.ss1
  s2 : Strs w B A2 D.ss2.length D.ss2
  st : Steps w B A3 D.st.length D.st
section
variable {w w' : World} {B B' : Nat} {A1 A2 A3 : Option Addr} {D : PDraft}
theorem RdDraft.below (h : RdDraft w B A1 A2 A3 D) (hb : Below B w w') : RdDraft w' B A1 A2 A3 D := ⟨h.s1.below hb, h.s2.below hb, h.st.below hb⟩
theorem RdDraft.alloc (h : RdDraft w B A1 A2 A3 D) (hB : B ≤ w.heap.size) (o : Obj) : RdDraft (w.alloc o) B A1 A2 A3 D := ⟨h.s1.alloc hB o, h.s2.alloc hB o, h.st.alloc hB o⟩
end
def draftV (D : PDraft) (A1 : Option Addr) (c1 : Nat) (A2 : Option Addr) (c2 : Nat) (A3 : Option Addr) (c3 : Nat) : Array Value :=
  #[.int .i64 D.d1, .int .i64 D.f1, .slice A1 D.ss1.length c1, .int .i64 D.d2, .int .i64 D.f2, .slice A2 D.ss2.length c2, .slice A3 D.st.length c3]
structure OwnDraft (w : World) (base : Nat) (A1 : Option Addr) (c1 : Nat) (A2 : Option Addr) (c2 : Nat) (A3 : Option Addr) (c3 : Nat) (D : PDraft) : Prop where
  o1 : w.ownsRow base 9 1 (.slice A1 D.ss1.length c1) D.ss1.length (D.ss1.map Value.string)
  o2 : w.ownsRow base 9 1 (.slice A2 D.ss2.length c2) D.ss2.length (D.ss2.map Value.string)
  o3 : w.ownsRow base 65 7 (.slice A3 D.st.length c3) D.st.length (D.st.flatMap stepCells)
  ne : ∀ k, (Value.slice A1 D.ss1.length c1).ownBlock = some k → (Value.slice A2 D.ss2.length c2).ownBlock ≠ some k
structure OkDraft (D : PDraft) (m : Nat) : Prop where
  l1 : D.ss1.length ≤ m
  l2 : D.ss2.length ≤ m
  l3 : D.st.length ≤ m
  z1 : ∀ s ∈ D.ss1, s.size ≤ 16777216
  z2 : ∀ s ∈ D.ss2, s.size ≤ 16777216
  z3 : ∀ s ∈ D.st, s.b.size ≤ 16777216 ∧ s.a.size ≤ 16777216
def FreshDraft (base : Nat) (D : PDraft) (w : World) (e : Ending) (w' : World) : Prop :=
  ∃ A1 c1 A2 c2 A3 c3, e = .returned (.agg (draftV D A1 c1 A2 c2 A3 c3)) ∧ OwnDraft w' base A1 c1 A2 c2 A3 c3 D ∧ Below w.heap.size w w'
set_option maxHeartbeats 1600000 in
theorem l_toDraft (D : PDraft) (B : Nat) (A1 A2 A3 : Option Addr) (c1 c2 c3 : Nat) (w : World) (hS : RdDraft w B A1 A2 A3 D) (hB : B ≤ w.heap.size) :
    Calls Tryz.prog 66 #[.agg (draftV D A1 c1 A2 c2 A3 c3)] w (FreshDraft w.heap.size D w) := by
  obtain ⟨d1, f1, ss1, d2, f2, ss2, st⟩ := D
  obtain ⟨h1, h2, h3⟩ := hS
  simp only at h1 h2 h3
  unfold draftV
  simp only
  have hn1 := h1.nb
  have hn2 := h2.nb
  have hn3 := h3.nb
  go_enter Tryz.func66, Tryz.ntmps66
  go_wp2_with fail
  refine (l_toCard d1 f1 B A1 _ c1 ss1 _ (((h1.alloc hB _).alloc (by simp; omega) _).alloc (by simp; omega) _) (by simp; omega)).mono ?_
  rintro e w1 ⟨B1, e1, rfl, ho1, hb1⟩
  obtain ⟨hcb1, hfb1⟩ := bcell hb1
  have hz_w1_0 : w.heap.size < w1.heap.size := (by have hzz := hb1.size; (try simp at hzz); omega); have hy_w1_0 := Nat.le_of_lt hz_w1_0; have hz_w1_1 : w.heap.size + 1 < w1.heap.size := (by have hzz := hb1.size; (try simp at hzz); omega); have hy_w1_1 := Nat.le_of_lt hz_w1_1; have hz_w1_2 : w.heap.size + 1 + 1 < w1.heap.size := (by have hzz := hb1.size; (try simp at hzz); omega); have hy_w1_2 := Nat.le_of_lt hz_w1_2
  have hbw1 : Below w.heap.size w w1 := bel
  go_wp2_with fail
  refine (l_toCard d2 f2 B A2 _ c2 ss2 _ (by exact h2.below (Below.mono (B := w.heap.size) bel hB)) (by simp [World.setCell]; omega)).mono ?_
  rintro e w2 ⟨B2, e2, rfl, ho2, hb2⟩
  obtain ⟨hcb2, hfb2⟩ := bcell hb2
  have hs2 : w1.heap.size ≤ w2.heap.size := by have := hb2.size; simp [World.setCell] at this; exact this
  have hz20 : w.heap.size < w2.heap.size := by omega
  have hz21 : w.heap.size + 1 < w2.heap.size := by omega
  have hz22 : w.heap.size + 1 + 1 < w2.heap.size := by omega
  have hbw2 : Below w.heap.size w w2 := hbw1.trans ((((Below.refl w.heap.size w1).setCell (p := ⟨w.heap.size + 1 + 1, 0, none⟩) (by simp; try omega) _).setCell (p := ⟨w.heap.size + 1 + 1, 1, none⟩) (by simp; try omega) _).setCell (p := ⟨w.heap.size + 1 + 1, 2, none⟩) (by simp; try omega) _ |>.trans (hb2.mono (by simp [World.setCell]; omega)))
  go_wp2_with fail
  refine (l_toStepS B A3 _ c3 st _ (by exact h3.below (Below.mono (B := w.heap.size) bel hB)) (by simp [World.setCell]; omega)).mono ?_
  rintro e w3 ⟨B3, e3, rfl, ho3, hb3⟩
  obtain ⟨hcb3, hfb3⟩ := bcell hb3
  have hs3 : w2.heap.size ≤ w3.heap.size := by have := hb3.size; simp [World.setCell] at this; exact this
  have hz30 : w.heap.size < w3.heap.size := by omega
  have hz31 : w.heap.size + 1 < w3.heap.size := by omega
  have hz32 : w.heap.size + 1 + 1 < w3.heap.size := by omega
  go_wp2
  refine bodyPost_ret (v := .agg #[.int .i64 d1, .int .i64 f1, .slice B1 ss1.length e1, .int .i64 d2, .int .i64 f2, .slice B2 ss2.length e2, .slice B3 st.length e3]) (by simp [results, Tryz.results66, go_sem, *]) rfl ?_
  have hbw3 : Below w.heap.size w w3 := hbw2.trans ((((Below.refl w.heap.size w2).setCell (p := ⟨w.heap.size + 1 + 1, 3, none⟩) (by simp; try omega) _).setCell (p := ⟨w.heap.size + 1 + 1, 4, none⟩) (by simp; try omega) _).setCell (p := ⟨w.heap.size + 1 + 1, 5, none⟩) (by simp; try omega) _ |>.trans (hb3.mono (by simp [World.setCell]; omega)))
  have HBW3 := hide hbw3
  clear hbw1 hbw2 hbw3
  have hne : ∀ k, (Value.slice B1 ss1.length e1).ownBlock = some k → (Value.slice B2 ss2.length e2).ownBlock ≠ some k := by
    intro k hk hk2
    have a := (ho1.lt k hk).2
    have b := (ho2.lt k hk2).1
    simp [World.setCell] at b
    omega
  refine ⟨B1, e1, B2, e2, B3, e3, rfl, ⟨own_up ho1 upr (by first | exact Nat.le_refl _ | (simp; done) | omega | (simp; omega) | exact (‹_ ∧ _ ∧ Below _ _ _›).2.2.size), own_up ho2 upr (by first | exact Nat.le_refl _ | (simp; done) | omega | (simp; omega) | exact (‹_ ∧ _ ∧ Below _ _ _›).2.2.size), own_up ho3 upr (by first | exact Nat.le_refl _ | (simp; done) | omega | (simp; omega) | exact (‹_ ∧ _ ∧ Below _ _ _›).2.2.size), hne⟩, ?_⟩
  have hbw3 := unhide HBW3
  clear hb1 hb2 hb3
  exact bel
set_option maxHeartbeats 1600000 in
theorem l_eqDraft_same (D : PDraft) (B : Nat) (A1 A2 A3 B1 B2 B3 : Option Addr) (c1 c2 c3 e1 e2 e3 : Nat) (w : World) (hS : RdDraft w B A1 A2 A3 D) (hT : RdDraft w B B1 B2 B3 D) (hB : B ≤ w.heap.size) :
    Calls Tryz.prog 73 #[.agg (draftV D A1 c1 A2 c2 A3 c3), .agg (draftV D B1 e1 B2 e2 B3 e3)] w fun e w' => e = .returned (.bool true) ∧ Below w.heap.size w w' := by
  obtain ⟨d1, f1, ss1, d2, f2, ss2, st⟩ := D
  obtain ⟨h1, h2, h3⟩ := hS
  obtain ⟨g1, g2, g3⟩ := hT
  simp only at h1 h2 h3 g1 g2 g3
  unfold draftV
  simp only
  have hn1 := h1.nb
  have hn2 := h2.nb
  have hn3 := h3.nb
  go_enter Tryz.func73, Tryz.ntmps73
  go_wp2_with fail
  refine (l_eqCard_args d1 f1 B _ _ _ _ _ _ ss1 _ ((h1.alloc hB _).alloc (by simp; omega) _) ((g1.alloc hB _).alloc (by simp; omega) _) (by simp; omega)).mono ?_
  rintro e w1 ⟨rfl, hb1⟩
  obtain ⟨hcb1, hfb1⟩ := bcell hb1
  have hz_w1_0 : w.heap.size < w1.heap.size := (by have hzz := hb1.size; (try simp at hzz); omega); have hy_w1_0 := Nat.le_of_lt hz_w1_0; have hz_w1_1 : w.heap.size + 1 < w1.heap.size := (by have hzz := hb1.size; (try simp at hzz); omega); have hy_w1_1 := Nat.le_of_lt hz_w1_1
  have hbw1 : Below w.heap.size w w1 := bel
  go_wp2_with fail
  refine (l_eqCard_args d2 f2 B _ _ _ _ _ _ ss2 _ (h2.below (hbw1.mono hB)) (g2.below (hbw1.mono hB)) (by omega)).mono ?_
  rintro e w2 ⟨rfl, hb2⟩
  obtain ⟨hcb2, hfb2⟩ := bcell hb2
  have hs2 := hb2.size
  have hz20 : w.heap.size < w2.heap.size := by omega
  have hz21 : w.heap.size + 1 < w2.heap.size := by omega
  have hbw2 : Below w.heap.size w w2 := hbw1.trans (hb2.mono (by omega))
  go_wp2_with fail
  refine (l_eqStepS_same B _ _ _ _ _ st _ (h3.below (hbw2.mono hB)) (g3.below (hbw2.mono hB)) (by omega)).mono ?_
  rintro e w3 ⟨rfl, hb3⟩
  go_wp2
  go_ret
  exact ⟨rfl, hbw2.trans (hb3.mono (by omega))⟩
theorem szDraft_n {D : PDraft} {left : Int} (h : szD D left < 0) : szD D left = -1 := by
  have h1 := szStrs_ge D.ss1 left
  unfold szD at h ⊢
  split
  · rfl
  · rename_i h2
    rw [if_neg h2] at h
    split
    · rfl
    · rename_i h3
      rw [if_neg h3] at h
      have := szStepL_ge D.st (szStrs D.ss2 (szStrs D.ss1 left)) (by omega)
      omega
set_option maxHeartbeats 3200000 in
theorem l_szDraft (D : PDraft) (B : Nat) (A1 A2 A3 : Option Addr) (c1 c2 c3 : Nat) (left : Int) (w : World) (hB : B ≤ w.heap.size) (hR1 : Reads w B 1 A1 D.ss1.length (D.ss1.map Value.string)) (hR2 : Reads w B 1 A2 D.ss2.length (D.ss2.map Value.string)) (hR3 : Reads w B 7 A3 D.st.length (D.st.flatMap stepCells))
    (hn1 : D.ss1.length ≤ 9223372036854775807) (hn2 : D.ss2.length ≤ 9223372036854775807) (hn3 : D.st.length ≤ 9223372036854775807) (hs1 : ∀ s ∈ D.ss1, s.size ≤ 9223372036854775807) (hs2 : ∀ s ∈ D.ss2, s.size ≤ 9223372036854775807) (hs3 : ∀ s ∈ D.st, s.b.size ≤ 9223372036854775807 ∧ s.a.size ≤ 9223372036854775807) (h0 : -1 ≤ left) (h1 : left ≤ 1048576) :
    Calls Tryz.prog 59 #[.agg (draftV D A1 c1 A2 c2 A3 c3), .int .i64 left] w fun e w' => e = .returned (.int .i64 (szD D left)) ∧ Below w.heap.size w w' := by
  obtain ⟨d1, f1, ss1, d2, f2, ss2, st⟩ := D
  simp only at hR1 hR2 hR3 hn1 hn2 hn3 hs1 hs2 hs3
  have HS1 := hide hs1
  have HS2 := hide hs2
  have HS3 := hide hs3
  clear hs1 hs2 hs3
  unfold szD draftV
  simp only
  have u1 := sz_ub ss1 left h1
  have g1 := szStrs_ge ss1 left
  have u2 := sz_ub ss2 (szStrs ss1 left) u1
  have g2 := szStrs_ge ss2 (szStrs ss1 left)
  have u3 := szStepL_ub st (szStrs ss2 (szStrs ss1 left)) u2
  have g3 := szStepL_ge st (szStrs ss2 (szStrs ss1 left))
  have hc1 := fun (W : World) (h : Below w.heap.size w W) => l_szCard d1 f1 B A1 ss1.length c1 ss1 left W (Nat.le_trans hB h.size) (hR1.below (h.mono hB)) hn1 (unhide HS1) h0 h1
  have hc2 := fun (W : World) (h : Below w.heap.size w W) => l_szCard d2 f2 B A2 ss2.length c2 ss2 (szStrs ss1 left) W (Nat.le_trans hB h.size) (hR2.below (h.mono hB)) hn2 (unhide HS2) g1 u1
  have hc3 := fun (W : World) (h : Below w.heap.size w W) => l_szStepS B A3 st.length c3 st (szStrs ss2 (szStrs ss1 left)) W (hR3.below (h.mono hB)) (Nat.le_trans hB h.size) hn3 (unhide HS3) g2 u2
  have HC1 := hide hc1
  have HC2 := hide hc2
  have HC3 := hide hc3
  clear hc1 hc2 hc3
  generalize eq3 : szStepL st (szStrs ss2 (szStrs ss1 left)) = q3 at *
  generalize eq2 : szStrs ss2 (szStrs ss1 left) = q2 at *
  generalize eq1 : szStrs ss1 left = q1 at *
  clear eq1 eq2 eq3 hR1 hR2 hR3
  by_cases n1 : q1 < 0
  · rw [if_pos n1]
    go_enter Tryz.func59, Tryz.ntmps59
    go_wp2_with fail
    refine (unhide HC1 _ (by exact bel)).mono ?_
    rintro e w1 ⟨rfl, hb1⟩
    go_wp2
    go_ret
    exact ⟨rfl, bel⟩
  · rw [if_neg n1]
    by_cases n2 : q2 < 0
    · rw [if_pos n2]
      go_enter Tryz.func59, Tryz.ntmps59
      go_wp2_with fail
      refine (unhide HC1 _ (by exact bel)).mono ?_
      rintro e w1 ⟨rfl, hb1⟩
      obtain ⟨hcb1, hfb1⟩ := bcell hb1
      have hz_w1_0 : w.heap.size < w1.heap.size := (by have hzz := hb1.size; (try simp at hzz); omega); have hy_w1_0 := Nat.le_of_lt hz_w1_0
      have hbw1 : Below w.heap.size w w1 := bel
      go_wp2_with fail
      refine (unhide HC2 _ (by exact bel)).mono ?_
      rintro e w2 ⟨rfl, hb2⟩
      go_wp2
      go_ret
      exact ⟨rfl, bel⟩
    · rw [if_neg n2]
      have hg3 := g3 (by omega)
      clear g3
      go_enter Tryz.func59, Tryz.ntmps59
      go_wp2_with fail
      refine (unhide HC1 _ (by exact bel)).mono ?_
      rintro e w1 ⟨rfl, hb1⟩
      obtain ⟨hcb1, hfb1⟩ := bcell hb1
      have hz_w1_0 : w.heap.size < w1.heap.size := (by have hzz := hb1.size; (try simp at hzz); omega); have hy_w1_0 := Nat.le_of_lt hz_w1_0
      have hbw1 : Below w.heap.size w w1 := bel
      go_wp2_with fail
      refine (unhide HC2 _ (by exact bel)).mono ?_
      rintro e w2 ⟨rfl, hb2⟩
      obtain ⟨hcb2, hfb2⟩ := bcell hb2
      have hs2 := hb2.size
      have hz20 : w.heap.size < w2.heap.size := by omega
      have hbw2 : Below w.heap.size w w2 := hbw1.trans (hb2.mono (by omega))
      go_wp2_with fail
      refine (unhide HC3 _ (by exact bel)).mono ?_
      rintro e w3 ⟨rfl, hb3⟩
      by_cases n3 : q3 < 0
      · have h3 : q3 = -1 := by omega
        have H3 := Lib.hid h3
        clear h3
        go_wp2
        go_ret
        exact ⟨ret_int (by rw [H3.out]), hbw2.trans (hb3.mono (by omega))⟩
      · go_wp2
        go_ret
        exact ⟨rfl, hbw2.trans (hb3.mono (by omega))⟩
end Go.Proofs.YtdddglihomchfaaGreat
namespace Go.Proofs.YtdddglihomchfaaGreat
open Go.ChangeShapes Go.WideShapes Go.ChangeAt Go.RowKit
set_option linter.unusedVariables false
set_option maxRecDepth 10000
structure OwnSt (w : World) (lo hi : Nat) (A : Option Addr) (c : Nat) (st : List PStep) : Prop where
  row : w.ownsRow lo 65 7 (.slice A st.length c) st.length (st.flatMap stepCells)
  top : ∀ k, (Value.slice A st.length c).ownBlock = some k → k < hi
section
variable {lo hi lo' hi' : Nat} {w w' : World} {A : Option Addr} {c : Nat} {st : List PStep}
theorem OwnSt.within {l h : Nat} (ho : OwnSt w lo hi A c st) (hW : Within l h w w') (hd : hi ≤ l ∨ h ≤ lo) : OwnSt w' lo hi A c st :=
  ⟨own_within ho.row hW (fun k hk => by have h1 := ho.top k hk; have h2 := (ho.row.lt k hk).1; omega), ho.top⟩
theorem OwnSt.below (ho : OwnSt w lo hi A c st) (hb : Below w.heap.size w w') : OwnSt w' lo hi A c st := ⟨own_below ho.row hb, ho.top⟩
theorem OwnSt.box {g : Nat} {cs : Array Value} {t : TypeId} {fr : Nat × Nat} (ho : OwnSt w lo hi A c st) (hk : w.heap[g]? = some (.cells cs t fr)) (ht : t ∉ rowTys) (hg : w.grownBy w' (some g)) : OwnSt w' lo hi A c st := ⟨own_box ho.row (by decide) hk ht hg, ho.top⟩
theorem OwnSt.boxy (ho : OwnSt w lo hi A c st) (h : Boxy w w') : OwnSt w' lo hi A c st := ⟨own_boxy ho.row (by decide) h, ho.top⟩
theorem OwnSt.alloc (ho : OwnSt w lo hi A c st) (o : Obj) : OwnSt (w.alloc o) lo hi A c st := ⟨ho.row.alloc _, ho.top⟩
theorem OwnSt.wide (ho : OwnSt w lo hi A c st) (h1 : lo' ≤ lo) (h2 : hi ≤ hi') : OwnSt w lo' hi' A c st := ⟨own_base ho.row h1, fun k hk => by have := ho.top k hk; omega⟩
theorem OwnSt.of (ho : w.ownsRow lo 65 7 (.slice A st.length c) st.length (st.flatMap stepCells)) (h : w.heap.size ≤ hi) : OwnSt w lo hi A c st := ⟨ho, fun k hk => by have := (ho.lt k hk).2; omega⟩
end
structure OwnD (w : World) (lo hi : Nat) (A1 : Option Addr) (c1 : Nat) (A2 : Option Addr) (c2 : Nat) (A3 : Option Addr) (c3 : Nat) (D : PDraft) : Prop where
  o1 : OwnS w lo hi A1 c1 D.ss1
  o2 : OwnS w lo hi A2 c2 D.ss2
  o3 : OwnSt w lo hi A3 c3 D.st
  ne : ∀ k, (Value.slice A1 D.ss1.length c1).ownBlock = some k → (Value.slice A2 D.ss2.length c2).ownBlock ≠ some k
section
variable {lo hi lo' hi' : Nat} {w w' : World} {A1 A2 A3 : Option Addr} {c1 c2 c3 : Nat} {D : PDraft}
theorem OwnD.below (ho : OwnD w lo hi A1 c1 A2 c2 A3 c3 D) (hb : Below w.heap.size w w') : OwnD w' lo hi A1 c1 A2 c2 A3 c3 D := ⟨ho.o1.below hb, ho.o2.below hb, ho.o3.below hb, ho.ne⟩
theorem OwnD.boxy (ho : OwnD w lo hi A1 c1 A2 c2 A3 c3 D) (h : Boxy w w') : OwnD w' lo hi A1 c1 A2 c2 A3 c3 D := ⟨ho.o1.boxy h, ho.o2.boxy h, ho.o3.boxy h, ho.ne⟩
theorem OwnD.alloc (ho : OwnD w lo hi A1 c1 A2 c2 A3 c3 D) (o : Obj) : OwnD (w.alloc o) lo hi A1 c1 A2 c2 A3 c3 D := ⟨ho.o1.alloc o, ho.o2.alloc o, ho.o3.alloc o, ho.ne⟩
theorem OwnD.wide (ho : OwnD w lo hi A1 c1 A2 c2 A3 c3 D) (h1 : lo' ≤ lo) (h2 : hi ≤ hi') : OwnD w lo' hi' A1 c1 A2 c2 A3 c3 D := ⟨ho.o1.wide h1 h2, ho.o2.wide h1 h2, ho.o3.wide h1 h2, ho.ne⟩
theorem OwnD.of (ho : OwnDraft w lo A1 c1 A2 c2 A3 c3 D) (h : w.heap.size ≤ hi) : OwnD w lo hi A1 c1 A2 c2 A3 c3 D := ⟨OwnS.of ho.o1 h, OwnS.of ho.o2 h, OwnSt.of ho.o3 h, ho.ne⟩
end
def UDraft (d1 f1 : Int) (ss1 : List ByteArray) (d2 f2 : Int) (ss2 : List ByteArray) (st : List PStep) (w : World) (e : Ending) (w' : World) : Prop :=
  ∃ B1 e1 B2 e2 B3 e3, e = .returned (.agg #[.int .i64 d1, .int .i64 f1, .slice B1 ss1.length e1, .int .i64 d2, .int .i64 f2, .slice B2 ss2.length e2, .slice B3 st.length e3]) ∧ OwnD w' w.heap.size w'.heap.size B1 e1 B2 e2 B3 e3 ⟨d1, f1, ss1, d2, f2, ss2, st⟩ ∧ Below w.heap.size w w'
def UDraftB (d1 f1 : Int) (ss1 : List ByteArray) (d2 f2 : Int) (ss2 : List ByteArray) (st : List PStep) (b : Bool) (w : World) (e : Ending) (w' : World) : Prop :=
  ∃ B1 e1 B2 e2 B3 e3, e = .returned (.tuple #[.agg #[.int .i64 d1, .int .i64 f1, .slice B1 ss1.length e1, .int .i64 d2, .int .i64 f2, .slice B2 ss2.length e2, .slice B3 st.length e3], .bool b]) ∧ OwnD w' w.heap.size w'.heap.size B1 e1 B2 e2 B3 e3 ⟨d1, f1, ss1, d2, f2, ss2, st⟩ ∧ Below w.heap.size w w'
structure MkD (w : World) (lo hi : Nat) (A1 : Option Addr) (c1 n1 : Nat) (A2 : Option Addr) (c2 n2 : Nat) (A3 : Option Addr) (c3 n3 : Nat) (k : Int) : Prop where
  m1 : MkS w lo hi A1 c1 k n1
  m2 : MkS w lo hi A2 c2 (k + n1) n2
  m3 : w.ownsRow lo 65 7 (.slice A3 n3 c3) n3 (marksStep (k + n1 + n2) n3)
section
variable {lo hi : Nat} {w w' : World} {A1 A2 A3 : Option Addr} {c1 c2 c3 n1 n2 n3 : Nat} {k : Int}
end
end Go.Proofs.YtdddglihomchfaaGreat
namespace Go.Proofs.YtdddglihomchfaaGreat
open Go.ChangeShapes Go.WideShapes Go.ChangeAt Go.RowKit
set_option linter.unusedVariables false
set_option maxRecDepth 10000
structure OwnDW (w : World) (lo hi : Nat) (A1 : Option Addr) (c1 : Nat) (A2 : Option Addr) (c2 : Nat) (A3 : Option Addr) (c3 : Nat) (D : PDraft) : Prop where
  o1 : OwnS w lo hi A1 c1 D.ss1
  o2 : OwnS w lo hi A2 c2 D.ss2
  o3 : ∃ c0, OwnSt w lo hi A3 c0 D.st
  ne : ∀ k, (Value.slice A1 D.ss1.length c1).ownBlock = some k → (Value.slice A2 D.ss2.length c2).ownBlock ≠ some k
section
variable {lo hi lo' hi' : Nat} {w w' : World} {A1 A2 A3 : Option Addr} {c1 c2 c3 : Nat} {D : PDraft}
theorem OwnDW.within {l h : Nat} (ho : OwnDW w lo hi A1 c1 A2 c2 A3 c3 D) (hW : Within l h w w') (hd : hi ≤ l ∨ h ≤ lo) : OwnDW w' lo hi A1 c1 A2 c2 A3 c3 D := ⟨ho.o1.within hW hd, ho.o2.within hW hd, (ho.o3.elim fun c0 h3 => ⟨c0, h3.within hW hd⟩), ho.ne⟩
theorem OwnDW.below (ho : OwnDW w lo hi A1 c1 A2 c2 A3 c3 D) (hb : Below w.heap.size w w') : OwnDW w' lo hi A1 c1 A2 c2 A3 c3 D := ⟨ho.o1.below hb, ho.o2.below hb, (ho.o3.elim fun c0 h3 => ⟨c0, h3.below hb⟩), ho.ne⟩
theorem OwnDW.box {g : Nat} {cs : Array Value} {t : TypeId} {fr : Nat × Nat} (ho : OwnDW w lo hi A1 c1 A2 c2 A3 c3 D) (hk : w.heap[g]? = some (.cells cs t fr)) (ht : t ∉ rowTys) (hg : w.grownBy w' (some g)) : OwnDW w' lo hi A1 c1 A2 c2 A3 c3 D := ⟨ho.o1.box hk ht hg, ho.o2.box hk ht hg, (ho.o3.elim fun c0 h3 => ⟨c0, h3.box hk ht hg⟩), ho.ne⟩
theorem OwnDW.boxy (ho : OwnDW w lo hi A1 c1 A2 c2 A3 c3 D) (h : Boxy w w') : OwnDW w' lo hi A1 c1 A2 c2 A3 c3 D := ⟨ho.o1.boxy h, ho.o2.boxy h, (ho.o3.elim fun c0 h3 => ⟨c0, h3.boxy h⟩), ho.ne⟩
theorem OwnDW.alloc (ho : OwnDW w lo hi A1 c1 A2 c2 A3 c3 D) (o : Obj) : OwnDW (w.alloc o) lo hi A1 c1 A2 c2 A3 c3 D := ⟨ho.o1.alloc o, ho.o2.alloc o, (ho.o3.elim fun c0 h3 => ⟨c0, h3.alloc o⟩), ho.ne⟩
theorem OwnDW.of (ho : OwnD w lo hi A1 c1 A2 c2 A3 c3 D) : OwnDW w lo hi A1 c1 A2 c2 A3 c3 D := ⟨ho.o1, ho.o2, ⟨c3, ho.o3⟩, ho.ne⟩
theorem OwnDW.rd (ho : OwnDW w lo hi A1 c1 A2 c2 A3 c3 D) (hD : OkDraft D 16777216) : RdDraft w w.heap.size A1 A2 A3 D := by
  obtain ⟨c0, h3⟩ := ho.o3
  exact ⟨ho.o1.rd hD.l1 hD.z1, ho.o2.rd hD.l2 hD.z2, ⟨Reads.of_own h3.row, hD.l3, hD.z3⟩⟩
end
def UDraftW (d1 f1 : Int) (ss1 : List ByteArray) (d2 f2 : Int) (ss2 : List ByteArray) (st : List PStep) (w : World) (e : Ending) (w' : World) : Prop :=
  ∃ B1 e1 B2 e2 B3 e3, e = .returned (.agg #[.int .i64 d1, .int .i64 f1, .slice B1 ss1.length e1, .int .i64 d2, .int .i64 f2, .slice B2 ss2.length e2, .slice B3 st.length e3]) ∧ OwnDW w' w.heap.size w'.heap.size B1 e1 B2 e2 B3 e3 ⟨d1, f1, ss1, d2, f2, ss2, st⟩ ∧ Below w.heap.size w w'
def UDraftWB (d1 f1 : Int) (ss1 : List ByteArray) (d2 f2 : Int) (ss2 : List ByteArray) (st : List PStep) (b : Bool) (w : World) (e : Ending) (w' : World) : Prop :=
  ∃ B1 e1 B2 e2 B3 e3, e = .returned (.tuple #[.agg #[.int .i64 d1, .int .i64 f1, .slice B1 ss1.length e1, .int .i64 d2, .int .i64 f2, .slice B2 ss2.length e2, .slice B3 st.length e3], .bool b]) ∧ OwnDW w' w.heap.size w'.heap.size B1 e1 B2 e2 B3 e3 ⟨d1, f1, ss1, d2, f2, ss2, st⟩ ∧ Below w.heap.size w w'
theorem u_toDraftW (d1 f1 : Int) (ss1 : List ByteArray) (d2 f2 : Int) (ss2 : List ByteArray) (st : List PStep) (B : Nat) (A1 A2 A3 : Option Addr) (c1 c2 c3 : Nat) (w : World) (hS : RdDraft w B A1 A2 A3 ⟨d1, f1, ss1, d2, f2, ss2, st⟩) (hB : B ≤ w.heap.size) :
    Calls Tryz.prog 66 #[.agg #[.int .i64 d1, .int .i64 f1, .slice A1 ss1.length c1, .int .i64 d2, .int .i64 f2, .slice A2 ss2.length c2, .slice A3 st.length c3]] w (UDraftW d1 f1 ss1 d2 f2 ss2 st w) :=
  (l_toDraft ⟨d1, f1, ss1, d2, f2, ss2, st⟩ B A1 A2 A3 c1 c2 c3 w hS hB).mono fun _ _ h => by
    obtain ⟨B1, e1, B2, e2, B3, e3, he, ho, hb⟩ := h
    exact ⟨B1, e1, B2, e2, B3, e3, he, OwnDW.of (OwnD.of ho (Nat.le_refl _)), hb⟩
theorem u_eqDraftW (d1 f1 : Int) (ss1 : List ByteArray) (d2 f2 : Int) (ss2 : List ByteArray) (st : List PStep) (A1 A2 A3 B1 B2 B3 : Option Addr) (c1 c2 c3 e1 e2 e3 : Nat) (lo1 hi1 lo2 hi2 : Nat) (w : World) (h1 : OwnDW w lo1 hi1 A1 c1 A2 c2 A3 c3 ⟨d1, f1, ss1, d2, f2, ss2, st⟩) (h2 : OwnDW w lo2 hi2 B1 e1 B2 e2 B3 e3 ⟨d1, f1, ss1, d2, f2, ss2, st⟩) (hok : OkDraft ⟨d1, f1, ss1, d2, f2, ss2, st⟩ 16777216) :
    Calls Tryz.prog 73 #[.agg #[.int .i64 d1, .int .i64 f1, .slice A1 ss1.length c1, .int .i64 d2, .int .i64 f2, .slice A2 ss2.length c2, .slice A3 st.length c3], .agg #[.int .i64 d1, .int .i64 f1, .slice B1 ss1.length e1, .int .i64 d2, .int .i64 f2, .slice B2 ss2.length e2, .slice B3 st.length e3]] w fun e w' => e = .returned (.bool true) ∧ Below w.heap.size w w' :=
  l_eqDraft_same ⟨d1, f1, ss1, d2, f2, ss2, st⟩ w.heap.size A1 A2 A3 B1 B2 B3 c1 c2 c3 e1 e2 e3 w (h1.rd hok) (h2.rd hok) (Nat.le_refl _)
structure MkDW (w : World) (lo hi : Nat) (A1 : Option Addr) (c1 n1 : Nat) (A2 : Option Addr) (c2 n2 : Nat) (A3 : Option Addr) (c3 n3 : Nat) (k : Int) : Prop where
  m1 : MkS w lo hi A1 c1 k n1
  m2 : MkS w lo hi A2 c2 (k + n1) n2
  m3 : ∃ c0, w.ownsRow lo 65 7 (.slice A3 n3 c0) n3 (marksStep (k + n1 + n2) n3)
section
variable {lo hi : Nat} {w w' : World} {A1 A2 A3 : Option Addr} {c1 c2 c3 n1 n2 n3 : Nat} {k : Int}
theorem MkDW.below (h : MkDW w lo hi A1 c1 n1 A2 c2 n2 A3 c3 n3 k) (hb : Below w.heap.size w w') : MkDW w' lo hi A1 c1 n1 A2 c2 n2 A3 c3 n3 k := ⟨h.m1.below hb, h.m2.below hb, h.m3.elim fun c0 h3 => ⟨c0, own_below h3 hb⟩⟩
theorem MkDW.alloc (h : MkDW w lo hi A1 c1 n1 A2 c2 n2 A3 c3 n3 k) (o : Obj) : MkDW (w.alloc o) lo hi A1 c1 n1 A2 c2 n2 A3 c3 n3 k := ⟨h.m1.alloc o, h.m2.alloc o, h.m3.elim fun c0 h3 => ⟨c0, h3.alloc _⟩⟩
end
set_option maxHeartbeats 1600000 in
theorem u_markDraftW (d1 f1 : Int) (ss1 : List ByteArray) (d2 f2 : Int) (ss2 : List ByteArray) (st : List PStep) (A1 A2 A3 : Option Addr) (c1 c2 c3 lo hi : Nat) (k : Int) (w : World) (h : OwnDW w lo hi A1 c1 A2 c2 A3 c3 ⟨d1, f1, ss1, d2, f2, ss2, st⟩) (hk0 : 0 ≤ k) (hk1 : k ≤ 4503599500000000) (hok : OkDraft ⟨d1, f1, ss1, d2, f2, ss2, st⟩ 16777216) :
    Calls Tryz.prog 82 #[.agg #[.int .i64 d1, .int .i64 f1, .slice A1 ss1.length c1, .int .i64 d2, .int .i64 f2, .slice A2 ss2.length c2, .slice A3 st.length c3], .int .i64 k] w fun e w' =>
      e = .returned (.int .i64 (k + ss1.length + ss2.length + 7 * (st.length : Int))) ∧ MkDW w' lo hi A1 c1 ss1.length A2 c2 ss2.length A3 c3 st.length k ∧ Within lo hi w w' := by
  obtain ⟨h1, h2, ⟨c0, h3⟩, hne⟩ := h
  simp only at h1 h2 h3 hne
  have hn1 : ss1.length ≤ 16777216 := hok.l1
  have hn2 : ss2.length ≤ 16777216 := hok.l2
  have hn3 : st.length ≤ 16777216 := hok.l3
  clear hok
  have lt1 := h1.row.lt
  have lt2 := h2.row.lt
  have lt3 := h3.row.lt
  have t1 := h1.top
  have t2 := h2.top
  have t3 := h3.top
  have ne13 := own_ne_type h1.row h3.row (by decide)
  have ne23 := own_ne_type h2.row h3.row (by decide)
  have LT1 := hide lt1
  have LT2 := hide lt2
  have LT3 := hide lt3
  have T1 := hide t1
  have T2 := hide t2
  have T3 := hide t3
  have NE := hide hne
  have NE13 := hide ne13
  have NE23 := hide ne23
  clear lt1 lt2 lt3 t1 t2 t3 hne ne13 ne23
  go_enter Tryz.func82, Tryz.ntmps82
  go_wp2_with fail
  have hk0_ := blk_new w (.cells #[.int .i64 d1, .int .i64 f1, .slice A1 ss1.length c1, .int .i64 d2, .int .i64 f2, .slice A2 ss2.length c2, .slice A3 st.length c3] 37)
  have a1 := h1.row.alloc (.cells #[.int .i64 d1, .int .i64 f1, .slice A1 ss1.length c1, .int .i64 d2, .int .i64 f2, .slice A2 ss2.length c2, .slice A3 st.length c3] 37)
  have a2 := h2.row.alloc (.cells #[.int .i64 d1, .int .i64 f1, .slice A1 ss1.length c1, .int .i64 d2, .int .i64 f2, .slice A2 ss2.length c2, .slice A3 st.length c3] 37)
  have a3 := h3.row.alloc (.cells #[.int .i64 d1, .int .i64 f1, .slice A1 ss1.length c1, .int .i64 d2, .int .i64 f2, .slice A2 ss2.length c2, .slice A3 st.length c3] 37)
  have hW0 : Within lo hi w (w.alloc (.cells #[.int .i64 d1, .int .i64 f1, .slice A1 ss1.length c1, .int .i64 d2, .int .i64 f2, .slice A2 ss2.length c2, .slice A3 st.length c3] 37)) := Within.of_below ((Below.refl _ _).alloc (Nat.le_refl _) _)
  clear h1 h2 h3
  refine (l_markCard lo _ _ _ _ _ _ k _ a1 hk0 (by omega) hn1).mono ?_
  rintro e w1 ⟨rfl, m1, hg1⟩
  have hk1_ := blk_markedk hk0_ hg1 a1 (by decide)
  have b2 := own_grown a2 hg1 (fun k hk he => unhide NE k he hk)
  have b3 := own_grown a3 hg1 (fun k hk he => unhide NE13 k he hk)
  have hW1 := hW0.trans (Within.of_grown a1 (by decide) hg1 (Nat.le_refl _) (unhide T1))
  clear hk0_ a2 a3 hW0 hg1 a1
  obtain ⟨hx0, hx1, hx2, hx3, hx4, hx5, hx6, hxl⟩ := blk7 hk1_
  go_wp2_with fail
  refine (l_markCard lo _ _ _ _ _ _ (k + ss1.length) _ b2 (by omega) (by omega) hn2).mono ?_
  rintro e w2 ⟨rfl, m2, hg2⟩
  clear hx0 hx1 hx2 hx3 hx4 hx5 hx6 hxl
  have hk2_ := blk_markedk hk1_ hg2 b2 (by decide)
  have n1 := own_grown m1 hg2 (fun k hk he => unhide NE k hk he)
  have c3_ := own_grown b3 hg2 (fun k hk he => unhide NE23 k he hk)
  have hW2 := hW1.trans (Within.of_grown b2 (by decide) hg2 (Nat.le_refl _) (unhide T2))
  clear hk1_ b2 b3 hW1 hg2 m1
  obtain ⟨hx0, hx1, hx2, hx3, hx4, hx5, hx6, hxl⟩ := blk7 hk2_
  go_wp2_with fail
  refine (l_markStepS lo _ _ _ _ _ (k + ss1.length + ss2.length) _ c3_ (by omega) (by omega) hn3).mono ?_
  rintro e w3 ⟨rfl, m3, hg3⟩
  clear hx0 hx1 hx2 hx3 hx4 hx5 hx6 hxl
  have n1' := own_grown n1 hg3 (fun k hk he => unhide NE13 k hk he)
  have n2' := own_grown m2 hg3 (fun k hk he => unhide NE23 k hk he)
  have hW3 := hW2.trans (Within.of_grown c3_ (by decide) hg3 (Nat.le_refl _) (unhide T3))
  clear hW2 hg3 n1 m2
  go_wp2
  go_ret
  exact ⟨rfl, ⟨⟨n1', unhide T1⟩, ⟨n2', unhide T2⟩, ⟨c0, m3⟩⟩, hW3⟩
set_option maxHeartbeats 1600000 in
theorem u_heldDraftW (d1 f1 d2 f2 : Int) (A1 A2 A3 : Option Addr) (c1 c2 c3 n1 n2 n3 lo hi : Nat) (k : Int) (w : World) (h : MkDW w lo hi A1 c1 n1 A2 c2 n2 A3 c3 n3 k) (hk0 : 0 ≤ k) (hk1 : k ≤ 4503599500000000) (hn1 : n1 ≤ 16777216) (hn2 : n2 ≤ 16777216) (hn3 : n3 ≤ 16777216) :
    Calls Tryz.prog 85 #[.agg #[.int .i64 d1, .int .i64 f1, .slice A1 n1 c1, .int .i64 d2, .int .i64 f2, .slice A2 n2 c2, .slice A3 n3 c3], .int .i64 k] w fun e w' =>
      e = .returned (.int .i64 (k + n1 + n2 + 7 * (n3 : Int))) ∧ Below w.heap.size w w' := by
  obtain ⟨h1, h2, ⟨c0, h3⟩⟩ := h
  go_enter Tryz.func85, Tryz.ntmps85
  go_wp2_with fail
  refine (u_heldCard _ _ _ _ n1 lo hi k _ (h1.alloc _) hk0 (by omega) hn1).mono ?_
  rintro e w1 ⟨rfl, hb1⟩
  obtain ⟨hcb1, hfb1⟩ := bcell hb1
  have hz_w1_0 : w.heap.size < w1.heap.size := (by have hzz := hb1.size; (try simp at hzz); omega); have hy_w1_0 := Nat.le_of_lt hz_w1_0
  have hbw1 : Below w.heap.size w w1 := bel
  go_wp2_with fail
  refine (u_heldCard _ _ _ _ n2 lo hi (k + n1) _ (h2.below hbw1) (by omega) (by omega) hn2).mono ?_
  rintro e w2 ⟨rfl, hb2⟩
  obtain ⟨hcb2, hfb2⟩ := bcell hb2
  have hs2 := hb2.size
  have hz20 : w.heap.size < w2.heap.size := by omega
  have hbw2 : Below w.heap.size w w2 := hbw1.trans (hb2.mono (by omega))
  go_wp2_with fail
  refine (l_heldStepS w2.heap.size A3 n3 c3 (k + n1 + n2) w2 (Reads.of_own (own_below h3 hbw2)) (Nat.le_refl _) (by omega) (by omega) hn3).mono ?_
  rintro e w3 ⟨rfl, hb3⟩
  go_wp2
  go_ret
  exact ⟨rfl, hbw2.trans (hb3.mono (by omega))⟩
end Go.Proofs.YtdddglihomchfaaGreat
namespace Go.Proofs.YtdddglihomchfaaGreat
open Go.ChangeShapes Go.WideShapes Go.ChangeAt Go.RowKit
set_option linter.unusedVariables false
set_option maxRecDepth 10000
theorem OkDraft.more {D : PDraft} {m k : Nat} (h : OkDraft D m) (hm : m ≤ k) : OkDraft D k := ⟨by have := h.l1; omega, by have := h.l2; omega, by have := h.l3; omega, h.z1, h.z2, h.z3⟩
structure RawDraft (w : World) (B : Nat) (A1 A2 A3 : Option Addr) (D : PDraft) : Prop where
  r1 : Reads w B 1 A1 D.ss1.length (D.ss1.map Value.string)
  r2 : Reads w B 1 A2 D.ss2.length (D.ss2.map Value.string)
  r3 : Reads w B 7 A3 D.st.length (D.st.flatMap stepCells)
  n1 : D.ss1.length ≤ 9223372036854775807
  n2 : D.ss2.length ≤ 9223372036854775807
  n3 : D.st.length ≤ 9223372036854775807
  z1 : ∀ s ∈ D.ss1, s.size ≤ 9223372036854775807
  z2 : ∀ s ∈ D.ss2, s.size ≤ 9223372036854775807
  z3 : ∀ s ∈ D.st, s.b.size ≤ 9223372036854775807 ∧ s.a.size ≤ 9223372036854775807
theorem RawDraft.below {w w' : World} {B : Nat} {A1 A2 A3 : Option Addr} {D : PDraft} (h : RawDraft w B A1 A2 A3 D) (hb : Below B w w') : RawDraft w' B A1 A2 A3 D := ⟨h.r1.below hb, h.r2.below hb, h.r3.below hb, h.n1, h.n2, h.n3, h.z1, h.z2, h.z3⟩
theorem RdDraft.raw {w : World} {B : Nat} {A1 A2 A3 : Option Addr} {D : PDraft} (h : RdDraft w B A1 A2 A3 D) : RawDraft w B A1 A2 A3 D :=
  ⟨h.s1.rd, h.s2.rd, h.st.rd, by have := h.s1.nb; omega, by have := h.s2.nb; omega, by have := h.st.nb; omega, fun s hs => by have := h.s1.sb s hs; omega, fun s hs => by have := h.s2.sb s hs; omega, fun s hs => by have := h.st.sb s hs; omega⟩
theorem draft_of_sz {w : World} {A1 A2 A3 : Option Addr} {D : PDraft} {l : Int} (h : RawDraft w w.heap.size A1 A2 A3 D) (hl : l ≤ 1048576) (hz : 0 ≤ szD D l) : RdDraft w w.heap.size A1 A2 A3 D ∧ OkDraft D 1048576 := by
  unfold szD at hz
  split at hz
  · omega
  · split at hz
    · omega
    · obtain ⟨h1, n1⟩ := strs_of_szl h.r1 hl (by omega)
      have u1 := sz_ub D.ss1 l hl
      obtain ⟨h2, n2⟩ := strs_of_szl h.r2 u1 (by omega)
      have u2 := sz_ub D.ss2 _ u1
      obtain ⟨h3, n3⟩ := steps_of_szl h.r3 u2 hz
      exact ⟨⟨h1, h2, h3⟩, ⟨n1, n2, n3, h1.sb, h2.sb, h3.sb⟩⟩
theorem l_szDraft2 (D : PDraft) (B : Nat) (A1 A2 A3 : Option Addr) (c1 c2 c3 : Nat) (left : Int) (w : World) (hB : B ≤ w.heap.size) (hR : RawDraft w B A1 A2 A3 D) (h0 : -1 ≤ left) (h1 : left ≤ 1048576) :
    Calls Tryz.prog 59 #[.agg (draftV D A1 c1 A2 c2 A3 c3), .int .i64 left] w fun e w' => e = .returned (.int .i64 (szD D left)) ∧ Below w.heap.size w w' :=
  l_szDraft D B A1 A2 A3 c1 c2 c3 left w hB hR.r1 hR.r2 hR.r3 hR.n1 hR.n2 hR.n3 hR.z1 hR.z2 hR.z3 h0 h1
theorem cells_lcard3 : Tryz.prog.cellsOf 24 = 3 := by kernel_rfl
theorem cells_steps : Tryz.prog.cellsOf 25 = 1 := by kernel_rfl
theorem cells_sl : Tryz.prog.cellsOf 22 = 1 := by kernel_rfl
theorem cells_ldraft : Tryz.prog.cellsOf 27 = 7 := by kernel_rfl
theorem trod_card {H : Type} {enc : TypeId × Value → H} {W : World} {n : Nat} {c0 c1 c2 : Value} {x : DataW H × List MemPlace} (h : DataW.trod enc Tryz.prog W 0 (fun _ => true) true n 24 [c0, c1, c2] = some x) :
    ∃ (d f : Int) (A : Option Addr) (c : Nat) (ss : List ByteArray), c0 = .int .i64 d ∧ c1 = .int .i64 f ∧ c2 = .slice A ss.length c ∧ Reads W W.heap.size 1 A ss.length (ss.map Value.string) ∧ ss.length ≤ maxLen ∧ ∀ s ∈ ss, s.size ≤ maxLen := by
  obtain ⟨m0, y0, h0⟩ := trod_field Tryz.underlying24 h 0 _ rfl cells_int
  obtain ⟨m1, y1, h1⟩ := trod_field Tryz.underlying24 h 1 _ rfl cells_int
  obtain ⟨m2, y2, h2⟩ := trod_field Tryz.underlying24 h 2 _ rfl cells_sl
  obtain ⟨d, e0, _, _⟩ := DataW.trod_int Tryz.underlying3 h0
  obtain ⟨f, e1, _, _⟩ := DataW.trod_int Tryz.underlying3 h1
  obtain ⟨A, n, c, ss, e2, hR, hm, hs⟩ := reads_strings h2
  simp at e0 e1 e2
  have hl : ss.length = n := by have := hR.1; simpa using this
  subst hl
  exact ⟨d, f, A, c, ss, e0, e1, e2, hR, hm, hs⟩
theorem trod_steps {H : Type} {enc : TypeId × Value → H} {W : World} {n : Nat} {c0 : Value} {x : DataW H × List MemPlace} (h : DataW.trod enc Tryz.prog W 0 (fun _ => true) true n 25 [c0] = some x) :
    ∃ (A : Option Addr) (c : Nat) (l : List PStep), c0 = .slice A l.length c ∧ Reads W W.heap.size 7 A l.length (l.flatMap stepCells) ∧ l.length ≤ maxLen ∧ ∀ s ∈ l, s.b.size ≤ maxLen ∧ s.a.size ≤ maxLen := by
  obtain ⟨A, n, c, l, hcs, hR, hl, hm, hq⟩ := reads_rows (α := PStep) (f := stepCells) (Q := fun s => s.b.size ≤ maxLen ∧ s.a.size ≤ maxLen) stepCells_len (by omega) Tryz.underlying25 cells_lstep h (fun n cs' y hcl ht => by
    match cs', hcl with
    | [c0, c1, c2, c3, c4, c5, c6], _ =>
      obtain ⟨K, F, L, T, I, b, a, he, hb, ha⟩ := trod_step ht
      exact ⟨⟨K, F, L, T, I, b, a⟩, he, hb, ha⟩)
  subst hl
  simp at hcs
  exact ⟨A, c, l, hcs, hR, hm, hq⟩
end Go.Proofs.YtdddglihomchfaaGreat
namespace Go.Proofs.YtdddglihomchfaaGreat
open Go.ChangeShapes Go.WideShapes Go.ChangeAt Go.RowKit
set_option linter.unusedVariables false
set_option maxRecDepth 10000
structure PItem where
  (nm : ByteArray)
  (d f : Int)
  (ss : List ByteArray)
structure RItem where
  (x : PItem)
  (A : Option Addr)
  (c : Nat)
def itemCells (r : RItem) : List Value := [.string r.x.nm, .int .i64 r.x.d, .int .i64 r.x.f, .slice r.A r.x.ss.length r.c]
theorem itemCells_len (r : RItem) : (itemCells r).length = 4 := rfl
abbrev RItem.v (r : RItem) : Value := .slice r.A r.x.ss.length r.c
structure Items (w : World) (B : Nat) (A : Option Addr) (n : Nat) (L : List RItem) : Prop where
  rd : Reads w B 4 A n (L.flatMap itemCells)
  nb : n ≤ 16777216
  in_ : ∀ r ∈ L, Strs w B r.A r.x.ss.length r.x.ss ∧ r.x.nm.size ≤ 16777216
section
variable {w w' : World} {B B' n : Nat} {A : Option Addr} {L : List RItem}
theorem Items.len (h : Items w B A n L) : L.length = n := by
  have := h.rd.1; rw [flat_len itemCells_len] at this; omega
theorem Items.below (h : Items w B A n L) (hb : Below B w w') : Items w' B A n L := ⟨h.rd.below hb, h.nb, fun r hr => ⟨(h.in_ r hr).1.below hb, (h.in_ r hr).2⟩⟩
theorem Items.alloc (h : Items w B A n L) (hB : B ≤ w.heap.size) (o : Obj) : Items (w.alloc o) B A n L := ⟨h.rd.alloc hB o, h.nb, fun r hr => ⟨(h.in_ r hr).1.alloc hB o, (h.in_ r hr).2⟩⟩
theorem itemCells_at {w : World} {B n : Nat} {A : Option Addr} {l : List RItem} {k : Nat} (hR : Reads w B 4 A n (l.flatMap itemCells)) (hl : l.length = n) (hk : k < n) : ∃ (hk' : k < l.length) (ad : Addr), A = some ad ∧ ad.block < B ∧ w.cell? (ad.add (k * 4)) = some (.string l[k].x.nm) ∧ w.cell? ⟨(ad.add (k * 4)).block, (ad.add (k * 4)).off + 1, none⟩ = some (.int .i64 l[k].x.d) ∧ w.cell? ⟨(ad.add (k * 4)).block, (ad.add (k * 4)).off + 2, none⟩ = some (.int .i64 l[k].x.f) ∧ w.cell? ⟨(ad.add (k * 4)).block, (ad.add (k * 4)).off + 3, none⟩ = some (.slice l[k].A l[k].x.ss.length l[k].c) := by
  have hk' : k < l.length := by omega
  obtain ⟨ad, e, hb, hc⟩ := hR.2 (by omega)
  have hg := fun j hj => flat_get itemCells_len l k j hk' hj
  exact ⟨hk', ad, e, hb, hc _ _ (hg 0 (by omega)), by rw [← add_next _ _ _ (by omega)]; exact hc _ _ (hg 1 (by omega)), by rw [← add_next _ _ _ (by omega)]; exact hc _ _ (hg 2 (by omega)), by rw [← add_next _ _ _ (by omega)]; exact hc _ _ (hg 3 (by omega))⟩
theorem Items.at_ {k : Nat} (h : Items w B A n L) (hk : k < n) : ∃ (hk' : k < L.length) (ad : Addr), A = some ad ∧ ad.block < B ∧ w.cell? (ad.add (k * 4)) = some (.string L[k].x.nm) ∧ w.cell? ⟨(ad.add (k * 4)).block, (ad.add (k * 4)).off + 1, none⟩ = some (.int .i64 L[k].x.d) ∧ w.cell? ⟨(ad.add (k * 4)).block, (ad.add (k * 4)).off + 2, none⟩ = some (.int .i64 L[k].x.f) ∧ w.cell? ⟨(ad.add (k * 4)).block, (ad.add (k * 4)).off + 3, none⟩ = some (.slice L[k].A L[k].x.ss.length L[k].c) ∧ Strs w B L[k].A L[k].x.ss.length L[k].x.ss ∧ L[k].x.nm.size ≤ 16777216 := by
  obtain ⟨hk', ad, e, hb, h0, h1, h2, h3⟩ := itemCells_at h.rd h.len hk
  have hi := h.in_ _ (List.getElem_mem hk')
  exact ⟨hk', ad, e, hb, h0, h1, h2, h3, hi.1, hi.2⟩
end
structure OwnItems (w : World) (lo hi : Nat) (A : Option Addr) (n c : Nat) (L : List RItem) : Prop where
  row : w.ownsRow lo 132 4 (.slice A n c) n (L.flatMap itemCells)
  top : ∀ k, (Value.slice A n c).ownBlock = some k → k < hi
  in_ : ∀ r ∈ L, OwnS w lo hi r.A r.c r.x.ss
  apart : L.Pairwise (fun r s => ∀ k, r.v.ownBlock = some k → s.v.ownBlock ≠ some k)
section
variable {w w' : World} {lo hi lo' hi' n c : Nat} {A : Option Addr} {L : List RItem}
theorem OwnItems.len (h : OwnItems w lo hi A n c L) : L.length = n := by
  have := h.row.1; rw [flat_len itemCells_len] at this; omega
theorem OwnItems.within {l h : Nat} (ho : OwnItems w lo hi A n c L) (hW : Within l h w w') (hd : hi ≤ l ∨ h ≤ lo) : OwnItems w' lo hi A n c L :=
  ⟨own_within ho.row hW (fun k hk => by have h1 := ho.top k hk; have h2 := (ho.row.lt k hk).1; omega), ho.top, fun r hr => (ho.in_ r hr).within hW hd, ho.apart⟩
theorem OwnItems.below (ho : OwnItems w lo hi A n c L) (hb : Below w.heap.size w w') : OwnItems w' lo hi A n c L := ⟨own_below ho.row hb, ho.top, fun r hr => (ho.in_ r hr).below hb, ho.apart⟩
theorem OwnItems.box {g : Nat} {cs : Array Value} {t : TypeId} {fr : Nat × Nat} (ho : OwnItems w lo hi A n c L) (hk : w.heap[g]? = some (.cells cs t fr)) (ht : t ∉ rowTys) (hg : w.grownBy w' (some g)) : OwnItems w' lo hi A n c L := ⟨own_box ho.row (by decide) hk ht hg, ho.top, fun r hr => (ho.in_ r hr).box hk ht hg, ho.apart⟩
theorem OwnItems.boxy (ho : OwnItems w lo hi A n c L) (h : Boxy w w') : OwnItems w' lo hi A n c L := ⟨own_boxy ho.row (by decide) h, ho.top, fun r hr => (ho.in_ r hr).boxy h, ho.apart⟩
theorem OwnItems.alloc (ho : OwnItems w lo hi A n c L) (o : Obj) : OwnItems (w.alloc o) lo hi A n c L := ⟨ho.row.alloc _, ho.top, fun r hr => (ho.in_ r hr).alloc _, ho.apart⟩
theorem OwnItems.wide (ho : OwnItems w lo hi A n c L) (h1 : lo' ≤ lo) (h2 : hi ≤ hi') : OwnItems w lo' hi' A n c L :=
  ⟨own_base ho.row h1, fun k hk => by have := ho.top k hk; omega, fun r hr => (ho.in_ r hr).wide h1 h2, ho.apart⟩
theorem OwnItems.rd (ho : OwnItems w lo hi A n c L) (hn : n ≤ 16777216) (hs : ∀ r ∈ L, r.x.ss.length ≤ 16777216 ∧ (∀ s ∈ r.x.ss, s.size ≤ 16777216) ∧ r.x.nm.size ≤ 16777216) : Items w w.heap.size A n L :=
  ⟨Reads.of_own ho.row, hn, fun r hr => ⟨(ho.in_ r hr).rd (hs r hr).1 (hs r hr).2.1, (hs r hr).2.2⟩⟩
end
def OkItems (P : List PItem) (m : Nat) : Prop := P.length ≤ m ∧ ∀ x ∈ P, x.ss.length ≤ m ∧ (∀ s ∈ x.ss, s.size ≤ 16777216) ∧ x.nm.size ≤ 16777216
def plI (L : List RItem) : List PItem := L.map RItem.x
theorem plI_len (L : List RItem) : (plI L).length = L.length := by simp [plI]
theorem OkItems.more {P : List PItem} {m k : Nat} (h : OkItems P m) (hm : m ≤ k) : OkItems P k := ⟨by have := h.1; omega, fun x hx => ⟨by have := (h.2 x hx).1; omega, (h.2 x hx).2⟩⟩
theorem OkItems.raw {L : List RItem} (h : OkItems (plI L) 16777216) : ∀ r ∈ L, r.x.ss.length ≤ 16777216 ∧ (∀ s ∈ r.x.ss, s.size ≤ 16777216) ∧ r.x.nm.size ≤ 16777216 := fun r hr => h.2 r.x (List.mem_map.2 ⟨r, hr, rfl⟩)
theorem OwnItems.rdOk {w : World} {lo hi n c : Nat} {A : Option Addr} {L : List RItem} (ho : OwnItems w lo hi A n c L) (hP : OkItems (plI L) 16777216) : Items w w.heap.size A n L := by
  have hl := ho.len
  have := hP.1
  rw [plI_len] at this
  exact ho.rd (by omega) hP.raw
theorem plI_get {L M : List RItem} (h : plI L = plI M) {k : Nat} (hk : k < L.length) (hk2 : k < M.length) : L[k].x = M[k].x := by
  have h1 : (plI L)[k]? = (plI M)[k]? := by rw [h]
  unfold plI at h1
  rw [List.getElem?_map, List.getElem?_map, List.getElem?_eq_getElem hk, List.getElem?_eq_getElem hk2] at h1
  simpa using h1
def FreshItems (base : Nat) (P : List PItem) (w : World) (e : Ending) (w' : World) : Prop :=
  ∃ A c L, e = .returned (.slice A P.length c) ∧ plI L = P ∧ OwnItems w' base w'.heap.size A P.length c L ∧ Below w.heap.size w w'
theorem info_itemCells : (Tryz.prog.info? 132).map (fun i => (i.zero, i.size, i.bytes)) = some (some (.agg #[.string ByteArray.empty, .int .i64 0, .int .i64 0, .slice none 0 0]), 4, 56) := by kernel_rfl
theorem OwnItems.append {w w' : World} {lo n c c' : Nat} {A A' : Option Addr} {L : List RItem} {r : RItem} (ho : OwnItems w lo w.heap.size A n c L) (hr : OwnS w lo w.heap.size r.A r.c r.x.ss)
    (hne : ∀ s ∈ L, ∀ k, s.v.ownBlock = some k → r.v.ownBlock ≠ some k) (hg : w.grownBy w' (Value.slice A n c).ownBlock) (h2 : w'.ownsRow lo 132 4 (.slice A' (n + 1) c') (n + 1) (L.flatMap itemCells ++ itemCells r)) :
    OwnItems w' lo w'.heap.size A' (n + 1) c' (L ++ [r]) := by
  have key : ∀ s : RItem, OwnS w lo w.heap.size s.A s.c s.x.ss → OwnS w' lo w'.heap.size s.A s.c s.x.ss := fun s hs =>
    ⟨own_grown hs.row hg (fun k hk => by
      intro he
      exact own_ne_type hs.row ho.row (by decide) k hk he), fun k hk => by have h1 := hs.top k hk; have h2 := hg.size; omega⟩
  refine ⟨by rw [flat_snoc]; exact h2, fun k hk => (h2.lt k hk).2, ?_, ?_⟩
  · intro s hs
    rcases List.mem_append.1 hs with h | h
    · exact key s (ho.in_ s h)
    · have := List.mem_singleton.1 h
      subst this
      exact key _ hr
  · rw [List.pairwise_append]
    refine ⟨ho.apart, by simp, fun a ha b hb => ?_⟩
    have := List.mem_singleton.1 hb
    subst this
    exact hne a ha
theorem OwnItems.nil {w : World} {lo hi c : Nat} {A : Option Addr} (h : w.ownsRow lo 132 4 (.slice A 0 c) 0 []) (ht : ∀ k, (Value.slice A 0 c).ownBlock = some k → k < hi) : OwnItems w lo hi A 0 c [] :=
  ⟨h, ht, (fun r hr => absurd hr (by simp)), List.Pairwise.nil⟩
end Go.Proofs.YtdddglihomchfaaGreat
namespace Go.Proofs.YtdddglihomchfaaGreat
open Go.ChangeShapes Go.WideShapes Go.ChangeAt Go.RowKit
set_option linter.unusedVariables false
set_option maxRecDepth 10000
def szItem (nm : ByteArray) (ss : List ByteArray) (left : Int) : Int := if left - nm.size < 0 then -1 else szStrs ss (left - nm.size)
theorem szItem_ub (nm : ByteArray) (ss : List ByteArray) (l : Int) (h : l ≤ 1048576) : szItem nm ss l ≤ 1048576 := by
  unfold szItem; split
  · omega
  · exact sz_ub _ _ (by omega)
theorem szItem_ge (nm : ByteArray) (ss : List ByteArray) (l : Int) : -1 ≤ szItem nm ss l := by
  unfold szItem szStrs; split
  · omega
  · split <;> omega
def szIts : List PItem → Int → Int
  | [], left => left
  | x :: l, left => if szItem x.nm x.ss left < 0 then -1 else szIts l (szItem x.nm x.ss left)
def szItems (l : List PItem) (left : Int) : Int := if left - l.length < 0 then -1 else szIts l (left - l.length)
theorem szIts_drop {l : List PItem} {j : Nat} (h : j < l.length) (q : Int) : szIts (l.drop j) q = if szItem l[j].nm l[j].ss q < 0 then -1 else szIts (l.drop (j + 1)) (szItem l[j].nm l[j].ss q) := by
  rw [List.drop_eq_getElem_cons h]; rfl
theorem szIts_ub (l : List PItem) : ∀ (q : Int), q ≤ 1048576 → szIts l q ≤ 1048576 := by
  induction l with
  | nil => intro q h; exact h
  | cons s l ih => intro q h; simp only [szIts]; split <;> (first | omega | exact ih _ (szItem_ub _ _ _ h))
theorem szItems_ub (l : List PItem) (q : Int) (h : q ≤ 1048576) : szItems l q ≤ 1048576 := by
  unfold szItems; split <;> (first | omega | exact szIts_ub l _ (by omega))
theorem szItems_ge (l : List PItem) (q : Int) (h : -1 ≤ q) : -1 ≤ szItems l q := by
  have key : ∀ (l : List PItem) (q : Int), -1 ≤ q → -1 ≤ szIts l q := by
    intro l
    induction l with
    | nil => intro q h; exact h
    | cons s l ih => intro q h; simp only [szIts]; split <;> (first | omega | exact ih _ (by omega))
  unfold szItems; split <;> (first | omega | exact key _ _ (by omega))
theorem szIts_mem (l : List PItem) : ∀ (q : Int), q ≤ 1048576 → 0 ≤ szIts l q → ∀ x ∈ l, x.ss.length ≤ 1048576 ∧ (∀ s ∈ x.ss, s.size ≤ 16777216) ∧ x.nm.size ≤ 16777216 := by
  induction l with
  | nil => intro q _ _ x hx; cases hx
  | cons s l ih =>
    intro q hq h x hx
    simp only [szIts] at h
    split at h
    · omega
    · rename_i h2
      rcases List.mem_cons.1 hx with rfl | hx
      · unfold szItem at h2
        split at h2
        · omega
        · rename_i h3
          unfold szStrs at h2
          split at h2
          · omega
          · exact ⟨by omega, fun s hs => by have := tot_mem hs; omega, by omega⟩
      · exact ih _ (szItem_ub _ _ _ hq) h x hx
structure RawItems (w : World) (B : Nat) (A : Option Addr) (L : List RItem) : Prop where
  rd : Reads w B 4 A L.length (L.flatMap itemCells)
  nb : L.length ≤ 9223372036854775807
  in_ : ∀ r ∈ L, Reads w B 1 r.A r.x.ss.length (r.x.ss.map Value.string) ∧ r.x.ss.length ≤ 9223372036854775807 ∧ (∀ s ∈ r.x.ss, s.size ≤ 9223372036854775807) ∧ r.x.nm.size ≤ 9223372036854775807
theorem RawItems.below {w w' : World} {B : Nat} {A : Option Addr} {L : List RItem} (h : RawItems w B A L) (hb : Below B w w') : RawItems w' B A L := ⟨h.rd.below hb, h.nb, fun r hr => ⟨(h.in_ r hr).1.below hb, (h.in_ r hr).2⟩⟩
theorem Items.raw {w : World} {B : Nat} {A : Option Addr} {L : List RItem} (h : Items w B A L.length L) : RawItems w B A L :=
  ⟨h.rd, by have := h.nb; omega, fun r hr => by
    have h1 := h.in_ r hr
    have h2 := h1.1.nb
    exact ⟨h1.1.rd, by omega, fun s hs => by have := h1.1.sb s hs; omega, by omega⟩⟩
theorem items_of_sz {W : World} {A : Option Addr} {L : List RItem} {l : Int} (hR : RawItems W W.heap.size A L) (hl : l ≤ 1048576) (hz : 0 ≤ szItems (plI L) l) : Items W W.heap.size A L.length L ∧ OkItems (plI L) 1048576 := by
  unfold szItems at hz
  split at hz
  · omega
  · have hm := szIts_mem _ _ (by omega) hz
    have hlen := plI_len L
    refine ⟨⟨hR.rd, by omega, fun r hr => ?_⟩, by omega, hm⟩
    obtain ⟨h1, h2, h3⟩ := hm r.x (List.mem_map.2 ⟨r, hr, rfl⟩)
    exact ⟨⟨(hR.in_ r hr).1, by omega, h2⟩, h3⟩
set_option maxHeartbeats 800000 in
theorem l_szItem (nm : ByteArray) (d f : Int) (B : Nat) (A : Option Addr) (n c : Nat) (ss : List ByteArray) (left : Int) (w : World) (hB : B ≤ w.heap.size) (hR : Reads w B 1 A n (ss.map Value.string)) (hn : n ≤ 9223372036854775807) (hs : ∀ s ∈ ss, s.size ≤ 9223372036854775807) (hnm : nm.size ≤ 9223372036854775807) (h0 : -1 ≤ left) (h1 : left ≤ 1048576) :
    Calls Tryz.prog 117 #[.agg #[.string nm, .int .i64 d, .int .i64 f, .slice A n c], .int .i64 left] w fun e w' => e = .returned (.int .i64 (szItem nm ss left)) ∧ Below w.heap.size w w' := by
  by_cases h2 : left - nm.size < 0
  · have HF : Hid (szItem nm ss left = -1) := by unfold Hid szItem; rw [if_pos h2]
    go_enter Tryz.func117, Tryz.ntmps117
    go_wp2
    go_ret
    exact ⟨ret_int HF.out.symm, bel⟩
  · have HF : Hid (szItem nm ss left = szStrs ss (left - nm.size)) := by unfold Hid szItem; rw [if_neg h2]
    have hr : -1 ≤ szStrs ss (left - nm.size) := by unfold szStrs; split <;> omega
    have hc := fun (W : World) (hW : Below w.heap.size w W) => l_szCard d f B A n c ss (left - nm.size) W (Nat.le_trans hB hW.size) (hR.below (hW.mono hB)) hn hs (by omega) (by omega)
    have HC := hide hc
    clear hc
    generalize szStrs ss (left - nm.size) = q at *
    by_cases h3 : q < 0
    · have hq : q = -1 := by omega
      have HQ := Lib.hid hq
      clear hq
      go_enter Tryz.func117, Tryz.ntmps117
      go_wp2_with fail
      refine (unhide HC _ (by exact bel)).mono ?_
      rintro e w1 ⟨rfl, hb1⟩
      go_wp2
      go_ret
      exact ⟨ret_int (by rw [HF.out, HQ.out]), bel⟩
    · go_enter Tryz.func117, Tryz.ntmps117
      go_wp2_with fail
      refine (unhide HC _ (by exact bel)).mono ?_
      rintro e w1 ⟨rfl, hb1⟩
      go_wp2
      go_ret
      exact ⟨ret_int HF.out.symm, bel⟩
set_option maxHeartbeats 1600000 in
theorem l_szItemS (B : Nat) (A : Option Addr) (c : Nat) (L : List RItem) (left : Int) (w : World) (hR : RawItems w B A L) (hB : B ≤ w.heap.size) (h0 : -1 ≤ left) (h1 : left ≤ 1048576) :
    Calls Tryz.prog 60 #[.slice A L.length c, .int .i64 left] w fun e w' => e = .returned (.int .i64 (szItems (plI L) left)) ∧ Below w.heap.size w w' := by
  have hn := hR.nb
  have hl := plI_len L
  obtain ⟨n, hnl⟩ : ∃ n, n = L.length := ⟨_, rfl⟩
  rw [← hnl] at hn hl ⊢
  by_cases hlt : left - n < 0
  · have HF : Hid (szItems (plI L) left = -1) := by unfold Hid szItems; rw [if_pos (by omega)]
    clear hl hnl
    go_enter Tryz.func60, Tryz.ntmps60
    go_wp2
    go_ret
    exact ⟨ret_int HF.out.symm, bel⟩
  · have HF : Hid (szItems (plI L) left = szIts (plI L) (left - n)) := by unfold Hid szItems; rw [if_neg (by omega), hl]
    have HL := Lib.hid hl
    have HN := Lib.hid hnl
    clear hl hnl
    go_enter Tryz.func60, Tryz.ntmps60
    go_wp2
    go_loopw [1, 5] (fun q i wr => ∃ (j : Nat) (x : Int), j ≤ n ∧ i = .int .i64 j ∧ q = .int .i64 x ∧ 0 ≤ x ∧ x ≤ 1048576 ∧ Hid (szIts ((plI L).drop j) x = szIts (plI L) (left - n)) ∧ Below w.heap.size w wr) (fun _ i _ => n - (intOf i).toNat)
    case atStart => exact ⟨0, left - n, Nat.zero_le _, rfl, rfl, by omega, by omega, by unfold Hid; simp, Below.refl _ _⟩
    case round =>
      obtain ⟨j, x, hj, rfl, rfl, hx0, hx1, HX, hb⟩ := hrel
      have hzr := hb.size
      by_cases hjn : j < n
      · obtain ⟨hk1, ad, rfl, hab, hc0, hc1, hc2, hc3⟩ := itemCells_at (hR.rd.below (hb.mono hB)) rfl (by have := HN.out; omega : j < L.length)
        obtain ⟨g1, g2, g3, g4⟩ := hR.in_ _ (List.getElem_mem hk1)
        have hx : (plI L)[j]'(by have := HL.out; omega) = L[j].x := by simp [plI]
        have HST := Lib.hid (szIts_drop (l := plI L) (j := j) (by have := HL.out; omega) x)
        rw [hx] at HST
        clear hx
        have hge := szItem_ge L[j].x.nm L[j].x.ss x
        have hub := szItem_ub L[j].x.nm L[j].x.ss x (by omega)
        have hcon := l_szItem L[j].x.nm L[j].x.d L[j].x.f B L[j].A _ L[j].c L[j].x.ss x wr (by omega) (g1.below (hb.mono hB)) g2 g3 g4 (by omega) (by omega)
        have HCON := hide hcon
        clear hcon g1 g2 g3
        generalize hy : szItem L[j].x.nm L[j].x.ss x = y at *
        clear hy
        by_cases hneg : y < 0
        · have HR : Hid (szIts (plI L) (left - n) = -1) := by unfold Hid; rw [← HX.out, HST.out, if_pos hneg]
          go_wp2_with (first | (go_at_call 117; refine (unhide HCON).mono ?_; rintro e w1 ⟨rfl, hb1⟩))
          go_ret
          exact ⟨ret_int (by rw [HF.out, HR.out]), bel⟩
        · have HR : Hid (szIts ((plI L).drop (j + 1)) y = szIts (plI L) (left - n)) := by unfold Hid; rw [← HX.out, HST.out, if_neg hneg]
          go_wp2_with (first | (go_at_call 117; refine (unhide HCON).mono ?_; rintro e w1 ⟨rfl, hb1⟩))
          go_roundw
          case rel => exact ⟨j + 1, y, by omega, by go_num, rfl, by omega, by omega, HR.out, bel⟩
          case measure => simp [intOf]; omega
      · have hjn' : j = n := by omega
        have hd : (plI L).drop j = [] := List.drop_eq_nil_of_le (by have := HL.out; omega)
        have HR : Hid (szIts (plI L) (left - n) = x) := by unfold Hid; rw [← HX.out, hd]; rfl
        subst hjn'
        clear hd
        go_wp2
        go_ret
        exact ⟨ret_int (by rw [HF.out, HR.out]), hb⟩
def UItem (nm : ByteArray) (d f : Int) (ss : List ByteArray) (w : World) (e : Ending) (w' : World) : Prop :=
  ∃ A c, e = .returned (.agg #[.string nm, .int .i64 d, .int .i64 f, .slice A ss.length c]) ∧ OwnS w' w.heap.size w'.heap.size A c ss ∧ Below w.heap.size w w'
set_option maxHeartbeats 800000 in
theorem u_toItem (nm : ByteArray) (d f : Int) (B : Nat) (A : Option Addr) (n c : Nat) (ss : List ByteArray) (w : World) (hS : Strs w B A n ss) (hB : B ≤ w.heap.size) :
    Calls Tryz.prog 124 #[.agg #[.string nm, .int .i64 d, .int .i64 f, .slice A n c]] w (UItem nm d f ss w) := by
  go_enter Tryz.func124, Tryz.ntmps124
  go_wp2_with fail
  refine (l_toCard d f B A n c ss _ (by exact hS.below (Below.mono (B := w.heap.size) bel hB)) (by simp; omega)).mono ?_
  rintro e w1 ⟨A1, c1, rfl, ho1, hb1⟩
  obtain ⟨hcb, hfb⟩ := bcell hb1
  have hz_w1_0 : w.heap.size < w1.heap.size := (by have hzz := hb1.size; (try simp at hzz); omega); have hy_w1_0 := Nat.le_of_lt hz_w1_0; have hz_w1_1 : w.heap.size + 1 < w1.heap.size := (by have hzz := hb1.size; (try simp at hzz); omega); have hy_w1_1 := Nat.le_of_lt hz_w1_1; have hz_w1_2 : w.heap.size + 1 + 1 < w1.heap.size := (by have hzz := hb1.size; (try simp at hzz); omega); have hy_w1_2 := Nat.le_of_lt hz_w1_2
  go_wp2
  refine bodyPost_ret (v := .agg #[.string nm, .int .i64 d, .int .i64 f, .slice A1 ss.length c1]) (by simp [results, Tryz.results124, go_sem, *]) rfl ?_
  refine ⟨A1, c1, rfl, OwnS.of (own_up ho1 upr (by first | exact Nat.le_refl _ | (simp; done) | omega | (simp; omega) | exact (‹_ ∧ _ ∧ Below _ _ _›).2.2.size)) (by simp), bel⟩
theorem set4 (A C : List Value) (p : Nat) (hp : A.length = p) (z0 z1 z2 z3 c0 c1 c2 c3 : Value) : (((((A ++ ([z0, z1, z2, z3] ++ C)).set (p) c0).set (p + 1) c1).set (p + 2) c2).set (p + 3) c3) = A ++ ([c0, c1, c2, c3] ++ C) := by
  subst hp
  induction A with
  | nil => rfl
  | cons a A ih =>
    simp only [List.cons_append, List.length_cons, Nat.add_right_comm _ 1, List.set_cons_succ]
    exact congrArg (a :: ·) (by simp)
theorem OwnItems.put {w w' : World} {lo hi hi' n c : Nat} {A : Option Addr} {M1 M2 : List RItem} {r0 r : RItem} (ho : OwnItems w lo hi A n c (M1 ++ r0 :: M2)) (hr : OwnS w lo hi' r.A r.c r.x.ss) (hh : hi ≤ hi')
    (hne : ∀ s ∈ M1 ++ M2, ∀ k, s.v.ownBlock = some k → r.v.ownBlock ≠ some k) (hg : w.grownBy w' (Value.slice A n c).ownBlock) (h2 : w'.ownsRow lo 132 4 (.slice A n c) n ((M1 ++ r :: M2).flatMap itemCells)) :
    OwnItems w' lo hi' A n c (M1 ++ r :: M2) := by
  have key : ∀ s : RItem, OwnS w lo hi' s.A s.c s.x.ss → OwnS w' lo hi' s.A s.c s.x.ss := fun s hs =>
    ⟨own_grown hs.row hg (fun k hk he => own_ne_type hs.row ho.row (by decide) k hk he), hs.top⟩
  have hap := ho.apart
  rw [List.pairwise_append, List.pairwise_cons] at hap
  refine ⟨h2, fun k hk => by have := ho.top k hk; omega, ?_, ?_⟩
  · intro s hs
    rcases List.mem_append.1 hs with h | h
    · exact key s ((ho.in_ s (List.mem_append_left _ h)).wide (Nat.le_refl _) hh)
    · rcases List.mem_cons.1 h with rfl | h
      · exact key _ hr
      · exact key s ((ho.in_ s (List.mem_append_right _ (List.mem_cons_of_mem _ h))).wide (Nat.le_refl _) hh)
  · rw [List.pairwise_append, List.pairwise_cons]
    refine ⟨hap.1, ⟨fun b hb k hk hk2 => hne b (List.mem_append_right _ hb) k hk2 hk, hap.2.1.2⟩, fun a ha b hb => ?_⟩
    rcases List.mem_cons.1 hb with rfl | hb
    · exact hne a (List.mem_append_left _ ha)
    · exact hap.2.2 a ha b (List.mem_cons_of_mem _ hb)
theorem OwnItems.inner {w w' : World} {lo hi n c : Nat} {A : Option Addr} {M1 M2 : List RItem} {r : RItem} {ss : List ByteArray} (ho : OwnItems w lo hi A n c (M1 ++ r :: M2)) (hl : ss.length = r.x.ss.length)
    (h1 : w'.ownsRow lo 9 1 (.slice r.A ss.length r.c) ss.length (ss.map Value.string)) (hg : w.grownBy w' r.v.ownBlock) :
    OwnItems w' lo hi A n c (M1 ++ ⟨⟨r.x.nm, r.x.d, r.x.f, ss⟩, r.A, r.c⟩ :: M2) := by
  have hap := ho.apart
  rw [List.pairwise_append, List.pairwise_cons] at hap
  have hrin := ho.in_ r (List.mem_append_right _ List.mem_cons_self)
  have hc : (M1 ++ (⟨⟨r.x.nm, r.x.d, r.x.f, ss⟩, r.A, r.c⟩ : RItem) :: M2).flatMap itemCells = (M1 ++ ⟨⟨r.x.nm, r.x.d, r.x.f, r.x.ss⟩, r.A, r.c⟩ :: M2).flatMap itemCells := by
    rw [List.flatMap_append, List.flatMap_append, List.flatMap_cons, List.flatMap_cons]
    simp [itemCells, hl]
  have hv : (RItem.v ⟨⟨r.x.nm, r.x.d, r.x.f, ss⟩, r.A, r.c⟩) = r.v := by show Value.slice r.A ss.length r.c = Value.slice r.A r.x.ss.length r.c; rw [hl]
  have hap2 := hap.2.1.1
  have hap3 := hap.2.2
  refine ⟨?_, ho.top, ?_, ?_⟩
  · rw [hc]
    exact own_grown ho.row hg (fun k hk he => own_ne_type hrin.row ho.row (by decide) k he hk)
  · intro s hs
    have key : ∀ s ∈ M1 ++ M2, (∀ k, s.v.ownBlock = some k → r.v.ownBlock ≠ some k) → OwnS w lo hi s.A s.c s.x.ss → OwnS w' lo hi s.A s.c s.x.ss := fun s _ hne hs => ⟨own_grown hs.row hg (fun k hk he => hne k hk he), hs.top⟩
    rcases List.mem_append.1 hs with h | h
    · exact key s (List.mem_append_left _ h) (fun k hk => hap3 s h r List.mem_cons_self k hk) (ho.in_ s (List.mem_append_left _ h))
    · rcases List.mem_cons.1 h with rfl | h
      · refine ⟨h1, fun k hk => hrin.top k ?_⟩
        rw [hl] at hk
        exact hk
      · exact key s (List.mem_append_right _ h) (fun k hk he => hap2 s h k he hk) (ho.in_ s (List.mem_append_right _ (List.mem_cons_of_mem _ h)))
  · rw [List.pairwise_append, List.pairwise_cons, hv]
    refine ⟨hap.1, ⟨hap2, hap.2.1.2⟩, fun a ha b hb => ?_⟩
    rcases List.mem_cons.1 hb with rfl | hb
    · rw [hv]; exact hap3 a ha r List.mem_cons_self
    · exact hap3 a ha b (List.mem_cons_of_mem _ hb)
def zItem : RItem := ⟨⟨ByteArray.empty, 0, 0, []⟩, none, 0⟩
theorem zItem_own (w : World) (lo hi : Nat) : OwnS w lo hi zItem.A zItem.c zItem.x.ss := ⟨World.ownsRow_nil w _ _ _, fun k hk => by simp [zItem, Value.ownBlock] at hk⟩
def UItems (P : List PItem) (w : World) (e : Ending) (w' : World) : Prop :=
  ∃ A c L, e = .returned (.slice A P.length c) ∧ plI L = P ∧ OwnItems w' w.heap.size w'.heap.size A P.length c L ∧ Below w.heap.size w w'
theorem flat_reps (n : Nat) : (List.replicate n zItem).flatMap itemCells = reps [.string ByteArray.empty, .int .i64 0, .int .i64 0, .slice none 0 0] n := by
  induction n with
  | zero => rfl
  | succ n ih => rw [List.replicate_succ, List.flatMap_cons, ih, reps_succ]; rfl
set_option maxHeartbeats 3200000 in
theorem u_toItemS (P : List PItem) (B : Nat) (A : Option Addr) (c : Nat) (L : List RItem) (w : World) (hp : plI L = P) (hS : Items w B A L.length L) (hB : B ≤ w.heap.size) :
    Calls Tryz.prog 67 #[.slice A L.length c] w (UItems P w) := by
  have hn := hS.nb
  have hl := plI_len L
  rw [hp] at hl
  obtain ⟨n, hnl⟩ : ∃ n, n = L.length := ⟨_, rfl⟩
  rw [← hnl] at hn hl ⊢
  have HL := Lib.hid hl
  have HN := Lib.hid hnl
  have HP := Lib.hid hp
  clear hl hp hnl
  obtain ⟨i0, hi0, hz0, hz1, hz2⟩ := info_parts info_itemCells
  have hmk := run_make_rowN (P := Tryz.prog) 38 132 i0 _ Tryz.underlying38 hi0 hz0 .i64 .i64 n n (Nat.le_refl _) (by rw [hz2]; omega) (by omega) w
  rw [hz1] at hmk
  go_enter Tryz.func67, Tryz.ntmps67
  go_wp2
  go_loopw [4] (fun i wr => ∃ (j : Nat) (M : List RItem), j ≤ n ∧ i = .int .i64 j ∧ Hid (M.length = j) ∧ Hid (plI M = P.take j) ∧ OwnItems wr w.heap.size wr.heap.size (some ⟨w.heap.size, 0, none⟩) n n (M ++ List.replicate (n - j) zItem) ∧ Below w.heap.size w wr) (fun i _ => n - (intOf i).toNat)
  case atStart =>
    refine ⟨0, [], Nat.zero_le _, rfl, rfl, rfl, ?_, bel⟩
    have h := World.ownsRow_lit (w := w) (base := w.heap.size) (e := 132) (size := 4) (madeCells #[Value.string ByteArray.empty, .int .i64 0, .int .i64 0, .slice none 0 0] (n * 4)) n (Nat.le_refl _) (by unfold maxLen; omega) (by simp [madeCells])
    have hm := made_reps [Value.string ByteArray.empty, .int .i64 0, .int .i64 0, .slice none 0 0] n (by simp)
    rw [show (madeCells #[Value.string ByteArray.empty, .int .i64 0, .int .i64 0, .slice none 0 0] (n * 4)).toList = reps [Value.string ByteArray.empty, .int .i64 0, .int .i64 0, .slice none 0 0] n from hm, ← flat_reps] at h
    refine ⟨by simpa using h, fun k hk => (h.lt k hk).2, fun r hr => ?_, ?_⟩
    · have := (List.mem_replicate.1 (by simpa using hr)).2
      subst this
      exact zItem_own _ _ _
    · simp only [List.nil_append]
      rw [List.pairwise_replicate]
      right
      intro k hk
      simp [zItem, RItem.v, Value.ownBlock] at hk
  case round =>
    obtain ⟨j, M, hj, rfl, HM, HT, hown, hb⟩ := hrel
    have hzr := hb.size
    by_cases hlt : j < n
    · obtain ⟨hk1, ad, rfl, hab, hc0, hc1, hc2, hc3, hss, hnm⟩ := (hS.below (hb.mono hB)).at_ (by have := HN.out; omega : j < L.length)
      have hjn : j * 4 + 4 ≤ n * 4 := by omega
      have hrep : List.replicate (n - j) zItem = zItem :: List.replicate (n - (j + 1)) zItem := by rw [show n - j = (n - (j + 1)) + 1 from by omega, List.replicate_succ]
      rw [hrep] at hown
      clear hrep
      go_wp2_with (go_at_call 124; refine (u_toItem _ _ _ B _ _ _ _ _ hss (by omega)).mono ?_; rintro e w1 ⟨A1, c1, rfl, hor, hb1⟩; have ho1 := hown.below hb1; obtain ⟨u0, hu0⟩ := own_cellk ho1.row (j * 4) (by omega); have hf0 := ho1.row.frozenAt (j * 4); obtain ⟨u1, hu1⟩ := own_cellk ho1.row (j * 4 + 1) (by omega); have hf1 := ho1.row.frozenAt (j * 4 + 1); obtain ⟨u2, hu2⟩ := own_cellk ho1.row (j * 4 + 2) (by omega); have hf2 := ho1.row.frozenAt (j * 4 + 2); obtain ⟨u3, hu3⟩ := own_cellk ho1.row (j * 4 + 3) (by omega); have hf3 := ho1.row.frozenAt (j * 4 + 3))
      go_roundw
      case rel =>
        have hst0 := ho1.row.stored (j * 4) (.string L[j].x.nm)
        have hst1 := hst0.1.stored (j * 4 + 1) (.int .i64 L[j].x.d)
        have hst2 := hst1.1.stored (j * 4 + 2) (.int .i64 L[j].x.f)
        have hst3 := hst2.1.stored (j * 4 + 3) (.slice A1 L[j].x.ss.length c1)
        have hgr := only_trans (only_trans (only_trans (hst0.2) hst1.2) hst2.2) hst3.2
        have ho2 := hst3.1
        have hA : (M.flatMap itemCells).length = j * 4 := by rw [flat_len itemCells_len, HM.out]
        rw [List.flatMap_append, List.flatMap_cons, show itemCells zItem = [.string ByteArray.empty, .int .i64 0, .int .i64 0, .slice none 0 0] from rfl, set4 _ _ (j * 4) hA] at ho2
        have hput := ho1.put (r := ⟨L[j].x, A1, c1⟩) (hi' := w1.heap.size) (hor.wide hzr (Nat.le_refl _)) hb1.size ?_ hgr (by rw [List.flatMap_append, List.flatMap_cons]; exact ho2)
        · refine ⟨j + 1, M ++ [⟨L[j].x, A1, c1⟩], by omega, by go_num, by unfold Hid; rw [List.length_append, HM.out]; rfl, ?_, ?_, ?_⟩
          · unfold Hid
            have hx : (plI L)[j]'(by rw [plI_len]; exact hk1) = L[j].x := by simp [plI]
            have hP := HP.out
            rw [show plI (M ++ [⟨L[j].x, A1, c1⟩]) = plI M ++ [L[j].x] by simp [plI], HT.out, ← hx, List.take_succ_eq_append_getElem (by have := HL.out; omega)]
            simp [← hP]
          · rw [List.append_assoc]
            simpa [World.setCell] using hput
          · exact only_below_B (hb.trans (hb1.mono hb.size)) hgr
        · intro s hs k hk hk2
          have q1 : k < wr.heap.size := by
            rcases List.mem_append.1 hs with h | h
            · exact ((hown.in_ s (List.mem_append_left _ h)).row.lt k hk).2
            · exact ((hown.in_ s (List.mem_append_right _ (List.mem_cons_of_mem _ h))).row.lt k hk).2
          have q2 := (hor.row.lt k hk2).1
          omega
      case measure => simp [intOf]; omega
    · have hjn : j = n := by omega
      subst hjn
      rw [Nat.sub_self, List.replicate_zero, List.append_nil] at hown
      have hT : plI M = P := by rw [HT.out]; exact List.take_of_length_le (by have := HL.out; omega)
      have HO := hide (And.intro hT hown)
      clear hown hT
      go_wp2
      go_ret
      have hl := HL.out
      obtain ⟨h1, h2⟩ := unhide HO
      subst hl
      exact ⟨_, _, M, rfl, h1, h2, hb⟩
set_option maxHeartbeats 800000 in
theorem l_eqItem_same (nm : ByteArray) (d f : Int) (B : Nat) (A1 A2 : Option Addr) (n1 n2 c1 c2 : Nat) (ss : List ByteArray) (w : World) (h1 : Strs w B A1 n1 ss) (h2 : Strs w B A2 n2 ss) (hB : B ≤ w.heap.size) :
    Calls Tryz.prog 134 #[.agg #[.string nm, .int .i64 d, .int .i64 f, .slice A1 n1 c1], .agg #[.string nm, .int .i64 d, .int .i64 f, .slice A2 n2 c2]] w fun e w' => e = .returned (.bool true) ∧ Below w.heap.size w w' := by
  have hbq := beq_toList_true (rfl : nm = nm)
  go_enter Tryz.func134, Tryz.ntmps134
  go_wp2_with (go_at_call 24; refine (l_eqCard_args d f B _ _ _ _ _ _ ss _ ((h1.alloc hB _).alloc (by simp; omega) _) ((h2.alloc hB _).alloc (by simp; omega) _) (by simp; omega)).mono ?_; rintro e w1 ⟨rfl, hb1⟩)
  go_ret
  exact ⟨rfl, bel⟩
set_option maxHeartbeats 1600000 in
theorem l_eqItemS_same (B : Nat) (A1 A2 : Option Addr) (n c1 c2 : Nat) (L1 L2 : List RItem) (w : World) (h1 : Items w B A1 n L1) (h2 : Items w B A2 n L2) (hp : plI L1 = plI L2) (hB : B ≤ w.heap.size) :
    Calls Tryz.prog 74 #[.slice A1 n c1, .slice A2 n c2] w fun e w' => e = .returned (.bool true) ∧ Below w.heap.size w w' := by
  have hn := h1.nb
  have HP := Lib.hid hp
  clear hp
  go_enter Tryz.func74, Tryz.ntmps74
  go_wp2
  go_loopw [5] (fun i wr => ∃ j : Nat, j ≤ n ∧ i = .int .i64 j ∧ Below w.heap.size w wr) (fun i _ => n - (intOf i).toNat)
  case atStart => exact ⟨0, Nat.zero_le _, rfl, Below.refl _ _⟩
  case round =>
    obtain ⟨j, hj, rfl, hb⟩ := hrel
    have hzr := hb.size
    by_cases hlt : j < n
    · obtain ⟨hk1, ad1, rfl, hab1, ha0, ha1, ha2, ha3, hs1, _⟩ := (h1.below (hb.mono hB)).at_ hlt
      obtain ⟨hk2, ad2, rfl, hab2, hc0, hc1, hc2, hc3, hs2, _⟩ := (h2.below (hb.mono hB)).at_ hlt
      have hx := plI_get HP.out hk1 hk2
      rw [← hx] at hc0 hc1 hc2 hc3 hs2
      clear hx
      have hq1 : (ad1.add (j * 4)).block < wr.heap.size := by rw [block_of_add]; omega
      have hq2 : (ad2.add (j * 4)).block < wr.heap.size := by rw [block_of_add]; omega
      have hs1' := hs1.more (B' := wr.heap.size) (by omega)
      have hs2' := hs2.more (B' := wr.heap.size) (by omega)
      go_wp2
      go_region_held3 (fun W => (∀ p : Addr, p.block < wr.heap.size → W.cell? p = (wr).cell? p) ∧ (∀ p : Addr, p.block < wr.heap.size → W.frozen? p = (wr).frozen? p) ∧ Below (wr.heap.size) (wr) W) (exact keep_ofP bel) ((go_at_call 134; have hq := (‹_ ∧ _ ∧ Below _ _ _›).2.2; refine (l_eqItem_same _ _ _ wr.heap.size _ _ _ _ _ _ _ _ (hs1'.below hq) (hs2'.below hq) hq.size).mono ?_; rintro e w3 ⟨rfl, hb3⟩))
      have hb3' : Below wr.heap.size wr w3 := (Below.refl _ _).drew.trans hb3
      go_wp2
      go_roundw
      case rel => exact ⟨j + 1, by omega, by go_num, hb.trans (hb3'.mono hzr)⟩
      case measure => simp [intOf]; omega
    · go_wp2
      go_ret
      exact ⟨rfl, hb⟩
theorem OwnItems.rdP {w : World} {lo hi c : Nat} {A : Option Addr} {L : List RItem} {P : List PItem} (ho : OwnItems w lo hi A P.length c L) (hp : plI L = P) (hP : OkItems P 16777216) : Items w w.heap.size A P.length L := by
  subst hp; exact ho.rdOk hP
theorem u_eqItemS (P : List PItem) (A1 A2 : Option Addr) (c1 c2 : Nat) (L1 L2 : List RItem) (lo1 hi1 lo2 hi2 : Nat) (w : World) (h1 : OwnItems w lo1 hi1 A1 P.length c1 L1) (h2 : OwnItems w lo2 hi2 A2 P.length c2 L2) (hp1 : plI L1 = P) (hp2 : plI L2 = P) (hok : OkItems P 16777216) :
    Calls Tryz.prog 74 #[.slice A1 P.length c1, .slice A2 P.length c2] w fun e w' => e = .returned (.bool true) ∧ Below w.heap.size w w' :=
  l_eqItemS_same w.heap.size A1 A2 _ c1 c2 L1 L2 w (h1.rdP hp1 hok) (h2.rdP hp2 hok) (hp1.trans hp2.symm) (Nat.le_refl _)
end Go.Proofs.YtdddglihomchfaaGreat
namespace Go.Proofs.YtdddglihomchfaaGreat
open Go.ChangeShapes Go.WideShapes Go.ChangeAt Go.RowKit
set_option linter.unusedVariables false
set_option maxRecDepth 10000
def cntI : List PItem → Nat
  | [] => 0
  | x :: l => 3 + x.ss.length + cntI l
theorem cntI_append (a b : List PItem) : cntI (a ++ b) = cntI a + cntI b := by
  induction a with
  | nil => simp [cntI]
  | cons x r ih => simp only [List.cons_append, cntI, ih]; omega
theorem cntI_le' (m : Nat) (P : List PItem) (h : ∀ x ∈ P, x.ss.length ≤ m) : cntI P ≤ P.length * (3 + m) := by
  induction P with
  | nil => simp [cntI]
  | cons x l ih =>
    have h1 := h x List.mem_cons_self
    have h2 := ih (fun y hy => h y (List.mem_cons_of_mem _ hy))
    simp only [cntI, List.length_cons, Nat.add_mul, Nat.one_mul]
    omega
theorem cntI_le {P : List PItem} (h : OkItems P 1048576) : cntI P ≤ 1099514773504 := by
  have h1 := cntI_le' 1048576 P (fun x hx => (h.2 x hx).1)
  have h2 := h.1
  have h3 : P.length * (3 + 1048576) ≤ 1048576 * (3 + 1048576) := Nat.mul_le_mul_right _ h2
  omega
theorem cntI_le2 {P : List PItem} (h : OkItems P 16777216) : cntI P ≤ 281475027042304 := by
  have h1 := cntI_le' 16777216 P (fun x hx => (h.2 x hx).1)
  have h2 := h.1
  have h3 : P.length * (3 + 16777216) ≤ 16777216 * (3 + 16777216) := Nat.mul_le_mul_right _ h2
  omega
def mkSS (k : Int) (n : Nat) : List ByteArray := (List.range n).map fun i => markT (k + (i : Nat))
theorem mkSS_len (k : Int) (n : Nat) : (mkSS k n).length = n := by simp [mkSS]
theorem mkSS_marks (k : Int) (n : Nat) : (mkSS k n).map Value.string = marks k n := by simp [mkSS, marks]
def mkItem (k : Int) (r : RItem) : RItem := ⟨⟨markT k, k + 1, k + 1 + 1, mkSS (k + 1 + 1 + 1) r.x.ss.length⟩, r.A, r.c⟩
def mksI : Int → List RItem → List RItem
  | _, [] => []
  | k, r :: l => mkItem k r :: mksI (k + 3 + r.x.ss.length) l
theorem mksI_len (k : Int) (l : List RItem) : (mksI k l).length = l.length := by
  induction l generalizing k with
  | nil => rfl
  | cons r l ih => simp only [mksI, List.length_cons, ih]
theorem mksI_append (k : Int) (l : List RItem) (r : RItem) : mksI k (l ++ [r]) = mksI k l ++ [mkItem (k + cntI (plI l)) r] := by
  induction l generalizing k with
  | nil => simp [mksI, plI, cntI]
  | cons s l ih =>
    simp only [List.cons_append, mksI, ih]
    congr 3
    simp only [plI, List.map_cons, cntI]
    congr 1
    push_cast
    omega
theorem plI_append (a b : List RItem) : plI (a ++ b) = plI a ++ plI b := by simp [plI]
theorem cntI_take {L : List RItem} {j : Nat} (hj : j < L.length) : cntI (plI (L.take (j + 1))) = cntI (plI (L.take j)) + (3 + L[j].x.ss.length) := by
  rw [List.take_succ_eq_append_getElem hj, plI_append, cntI_append]; simp [plI, cntI]
theorem cntI_take_le (L : List RItem) (j : Nat) : cntI (plI (L.take j)) ≤ cntI (plI L) := by
  have : plI L = plI (L.take j) ++ plI (L.drop j) := by rw [← plI_append, List.take_append_drop]
  rw [this, cntI_append]; omega
theorem mksI_get (k : Int) (L : List RItem) (j : Nat) (hj : j < L.length) : ∃ h : j < (mksI k L).length, (mksI k L)[j] = mkItem (k + cntI (plI (L.take j))) L[j] := by
  have hl := mksI_len k L
  refine ⟨by omega, ?_⟩
  induction L generalizing k j with
  | nil => simp at hj
  | cons r l ih =>
    cases j with
    | zero => simp [mksI, plI, cntI]
    | succ j =>
      have hj2 : j < l.length := by simpa using hj
      have h := ih (k + 3 + r.x.ss.length) j hj2 (mksI_len _ _)
      simp only [mksI, List.getElem_cons_succ, List.take_succ_cons]
      rw [h]
      congr 1
      simp only [plI, List.map_cons, cntI]
      push_cast
      omega
theorem set3of4 (A C : List Value) (p : Nat) (hp : A.length = p) (z0 z1 z2 z3 c0 c1 c2 : Value) : ((((A ++ ([z0, z1, z2, z3] ++ C)).set (p) c0).set (p + 1) c1).set (p + 2) c2) = A ++ ([c0, c1, c2, z3] ++ C) := by
  subst hp
  induction A with
  | nil => rfl
  | cons a A ih =>
    simp only [List.cons_append, List.length_cons, Nat.add_right_comm _ 1, List.set_cons_succ]
    exact congrArg (a :: ·) (by simp)
set_option maxHeartbeats 3200000 in
theorem u_markItemS (P : List PItem) (A : Option Addr) (c : Nat) (L : List RItem) (lo hi : Nat) (k : Int) (w : World) (hO : OwnItems w lo hi A P.length c L) (hp : plI L = P) (hk0 : 0 ≤ k) (hk1 : k ≤ 2251799813685248) (hok : OkItems P 16777216) :
    Calls Tryz.prog 83 #[.slice A P.length c, .int .i64 k] w fun e w' => e = .returned (.int .i64 (k + (cntI P : Int))) ∧ OwnItems w' lo hi A P.length c (mksI k L) ∧ Within lo hi w w' := by
  have hcn := cntI_le2 hok
  have hn : P.length ≤ 16777216 := hok.1
  have hin : ∀ r ∈ L, r.x.ss.length ≤ 16777216 := fun r hr => (hok.2 r.x (by rw [← hp]; exact List.mem_map.2 ⟨r, hr, rfl⟩)).1
  have hl : L.length = P.length := by rw [← hp, plI_len]
  have HIN := hide hin
  have HP := Lib.hid hp
  obtain ⟨n, hnn⟩ : ∃ n, n = P.length := ⟨_, rfl⟩
  rw [← hnn] at hl hO hn ⊢
  have HL := Lib.hid hl
  have hcl := fun j => cntI_take_le L j
  rw [hp] at hcl
  have HCL := hide hcl
  clear hin hp hl hnn hok hcl
  go_enter Tryz.func83, Tryz.ntmps83
  go_wp2
  go_loopw [1, 5] (fun q i wr => ∃ (j : Nat) (x : Int), j ≤ n ∧ i = .int .i64 j ∧ q = .int .i64 x ∧ Hid (x = k + cntI (plI (L.take j))) ∧ OwnItems wr lo hi A n c (mksI k (L.take j) ++ L.drop j) ∧ Within lo hi w wr) (fun _ i _ => n - (intOf i).toNat)
  case atStart => exact ⟨0, k, Nat.zero_le _, rfl, rfl, by unfold Hid; simp [plI, cntI], by simpa [mksI] using hO, Within.refl _ _ _⟩
  case round =>
    obtain ⟨j, x, hj, rfl, rfl, HXK, hown, hW⟩ := hrel
    have hbx : k ≤ x ∧ x ≤ k + cntI P := by have h1 := HXK.out; have h2 := unhide HCL j; omega
    by_cases hlt : j < n
    · have hk1' : j < L.length := by have := HL.out; omega
      obtain ⟨g, cap, hv, hbg, hglt⟩ := hown.row.form (by omega)
      have hA : A = some ⟨g, 0, none⟩ := by injection hv
      subst hA
      clear hv
      have hsn := unhide HIN _ (List.getElem_mem hk1')
      have hdr : L.drop j = L[j] :: L.drop (j + 1) := List.drop_eq_getElem_cons hk1'
      rw [hdr] at hown
      have HTK := Lib.hid (List.take_succ_eq_append_getElem hk1')
      have HCT := Lib.hid (cntI_take hk1')
      generalize L[j] = r at *
      clear hdr
      have hM : (mksI k (L.take j)).length = j := by rw [mksI_len, List.length_take]; omega
      have HM := Lib.hid hM
      clear hM
      generalize hM1 : mksI k (L.take j) = M1 at *
      have HM1 := Lib.hid hM1
      clear hM1
      generalize hM2 : L.drop (j + 1) = M2 at *
      have HM2 := Lib.hid hM2
      clear hM2
      have hfl : (M1 ++ r :: M2).flatMap itemCells = M1.flatMap itemCells ++ (itemCells r ++ M2.flatMap itemCells) := by rw [List.flatMap_append, List.flatMap_cons]
      have hal : (M1.flatMap itemCells).length = j * 4 := by rw [flat_len itemCells_len, HM.out]
      have HFL := Lib.hid hfl
      have HAL := Lib.hid hal
      clear hfl hal
      have hjn : j * 4 + 4 ≤ n * 4 := by omega
      have hcell3 : wr.cell? ⟨g, j * 4 + 3, none⟩ = some (.slice r.A r.x.ss.length r.c) := by
        rw [hown.row.cellAt (j * 4 + 3) (by omega), HFL.out, List.getElem?_append_right (by have := HAL.out; omega), HAL.out, List.getElem?_append_left (by simp [itemCells])]
        simp [itemCells]
      go_wp2_with fail
      refine (l_markText x _ (by omega) (by omega)).mono ?_
      rintro e w1 ⟨rfl, hb1⟩
      have ho1 := hown.below hb1
      obtain ⟨u0, hu0⟩ := own_cellk ho1.row (j * 4) (by omega)
      have hf0 := ho1.row.frozenAt (j * 4)
      obtain ⟨u1, hu1⟩ := own_cellk ho1.row (j * 4 + 1) (by omega)
      have hf1 := ho1.row.frozenAt (j * 4 + 1)
      obtain ⟨u2, hu2⟩ := own_cellk ho1.row (j * 4 + 2) (by omega)
      have hf2 := ho1.row.frozenAt (j * 4 + 2)
      have hu3 : w1.cell? ⟨g, j * 4 + 3, none⟩ = some (.slice r.A r.x.ss.length r.c) := by rw [hb1.cell (p := ⟨g, j * 4 + 3, none⟩) hglt]; exact hcell3
      clear hcell3
      go_wp2_with fail
      have hst0 := ho1.row.stored (j * 4) (.string (markT x))
      have hst1 := hst0.1.stored (j * 4 + 1) (.int .i64 (x + 1))
      have hst2 := hst1.1.stored (j * 4 + 2) (.int .i64 (x + 1 + 1))
      have hgr := only_trans (only_trans (hst0.2) hst1.2) hst2.2
      have ho2 := hst2.1
      rw [HFL.out, show itemCells r = [.string r.x.nm, .int .i64 r.x.d, .int .i64 r.x.f, .slice r.A r.x.ss.length r.c] from rfl, set3of4 _ _ (j * 4) HAL.out] at ho2
      have hap := ho1.apart
      rw [List.pairwise_append, List.pairwise_cons] at hap
      have hput := ho1.put (r := ⟨⟨markT x, x + 1, x + 1 + 1, r.x.ss⟩, r.A, r.c⟩) (hi' := hi) (ho1.in_ r (List.mem_append_right _ List.mem_cons_self)) (Nat.le_refl _) (fun s hs k2 hk2 hk3 => by
        rcases List.mem_append.1 hs with h | h
        · exact hap.2.2 s h r List.mem_cons_self k2 hk2 hk3
        · exact hap.2.1.1 s h k2 hk3 hk2) hgr (by rw [List.flatMap_append, List.flatMap_cons]; exact ho2)
      have hWp := (hW.trans (Within.of_below hb1)).trans (Within.of_grown ho1.row (by decide) hgr (Nat.le_refl _) ho1.top)
      clear hst0 hst1 hst2 hgr ho2 hap
      have HIR := hput.in_ _ (List.mem_append_right _ List.mem_cons_self)
      refine (l_markStringS lo r.A _ r.c _ (x + 1 + 1 + 1) _ HIR.row (by omega) (by omega) hsn).mono ?_
      rintro e w2 ⟨rfl, ho3, hg3⟩
      have hin3 := hput.inner (ss := mkSS (x + 1 + 1 + 1) r.x.ss.length) (by rw [mkSS_len]) (by rw [mkSS_marks, mkSS_len]; exact ho3) hg3
      have hW2 := hWp.trans (Within.of_grown HIR.row (by decide) hg3 (Nat.le_refl _) HIR.top)
      clear hput hWp HIR ho3 hg3 hu0 hu1 hu2 hu3 hf0 hf1 hf2 ho1 hown hW hb1
      have HIN3 := hide hin3
      have HW2 := hide hW2
      clear hin3 hW2
      go_wp2
      go_roundw
      case rel =>
        refine ⟨j + 1, x + 1 + 1 + 1 + r.x.ss.length, by omega, by go_num, by go_num, ?_, ?_, unhide HW2⟩
        · unfold Hid
          rw [HCT.out, HXK.out]
          push_cast
          omega
        · have h := unhide HIN3
          rw [HTK.out, mksI_append, HM1.out, ← HXK.out, List.append_assoc, HM2.out]
          exact h
      case measure => simp [intOf]; omega
    · have hjn : j = n := by omega
      subst hjn
      have hd : L.drop j = [] := List.drop_eq_nil_of_le (by have := HL.out; omega)
      have ht : L.take j = L := List.take_of_length_le (by have := HL.out; omega)
      rw [hd, ht, List.append_nil] at hown
      have hx : x = k + cntI P := by have h := HXK.out; rw [ht, HP.out] at h; exact h
      have HX := Lib.hid hx
      have HO := hide hown
      clear hd ht hown hx HXK HCL hbx
      go_wp2
      go_ret
      exact ⟨ret_int HX.out, unhide HO, hW⟩
set_option maxHeartbeats 3200000 in
theorem u_heldItemS (P : List PItem) (A : Option Addr) (c : Nat) (L : List RItem) (lo hi : Nat) (k : Int) (w : World) (hO : OwnItems w lo hi A P.length c (mksI k L)) (hp : plI L = P) (hk0 : 0 ≤ k) (hk1 : k ≤ 2251799813685248) (hok : OkItems P 16777216) :
    Calls Tryz.prog 86 #[.slice A P.length c, .int .i64 k] w fun e w' => e = .returned (.int .i64 (k + (cntI P : Int))) ∧ Below w.heap.size w w' := by
  have hcn := cntI_le2 hok
  have hn : P.length ≤ 16777216 := hok.1
  have hin : ∀ r ∈ L, r.x.ss.length ≤ 16777216 := fun r hr => (hok.2 r.x (by rw [← hp]; exact List.mem_map.2 ⟨r, hr, rfl⟩)).1
  have hl : L.length = P.length := by rw [← hp, plI_len]
  have HIN := hide hin
  have HP := Lib.hid hp
  obtain ⟨n, hnn⟩ : ∃ n, n = P.length := ⟨_, rfl⟩
  rw [← hnn] at hl hO hn ⊢
  have HL := Lib.hid hl
  have hcl := fun j => cntI_take_le L j
  rw [hp] at hcl
  have HCL := hide hcl
  clear hin hp hl hnn hok hcl
  go_enter Tryz.func86, Tryz.ntmps86
  go_wp2
  go_loopw [1, 5] (fun q i wr => ∃ (j : Nat) (x : Int), j ≤ n ∧ i = .int .i64 j ∧ q = .int .i64 x ∧ Hid (x = k + cntI (plI (L.take j))) ∧ Below w.heap.size w wr) (fun _ i _ => n - (intOf i).toNat)
  case atStart => exact ⟨0, k, Nat.zero_le _, rfl, rfl, by unfold Hid; simp [plI, cntI], Below.refl _ _⟩
  case round =>
    obtain ⟨j, x, hj, rfl, rfl, HXK, hb⟩ := hrel
    have hzr := hb.size
    have hbx : k ≤ x ∧ x ≤ k + cntI P := by have h1 := HXK.out; have h2 := unhide HCL j; omega
    by_cases hlt : j < n
    · have hk1' : j < L.length := by have := HL.out; omega
      have hsn := unhide HIN _ (List.getElem_mem hk1')
      have hOr := hO.below hb
      obtain ⟨hk2, hget⟩ := mksI_get k L j hk1'
      obtain ⟨hk3, ad, hA, hab, hc0, hc1, hc2, hc3⟩ := itemCells_at (Reads.of_own hOr.row) hOr.len hlt
      subst hA
      have hsr := hOr.in_ _ (List.getElem_mem hk3)
      rw [hget] at hc0 hc1 hc2 hc3 hsr
      have HCT := Lib.hid (cntI_take hk1')
      rw [← HXK.out] at hc0 hc1 hc2 hc3 hsr
      generalize L[j] = r at *
      simp only [mkItem, mkSS_len] at hc0 hc1 hc2 hc3
      have hrow := hsr.row
      simp only [mkItem, mkSS_len, mkSS_marks] at hrow
      clear hget hsr
      have hq1 : (ad.add (j * 4)).block < wr.heap.size := by rw [block_of_add]; exact hab
      have hbm := beq_toList_true (rfl : markT x = markT x)
      go_wp2
      go_region_held3 (fun W => (∀ p : Addr, p.block < wr.heap.size → W.cell? p = (wr).cell? p) ∧ (∀ p : Addr, p.block < wr.heap.size → W.frozen? p = (wr).frozen? p) ∧ Below (wr.heap.size) (wr) W) (exact keep_ofP bel) ((go_at_call 137; refine (l_markText x _ (by omega) (by omega)).mono ?_; rintro e w1 ⟨rfl, hbr1⟩))
      have hb1 : Below wr.heap.size wr w1 := (Below.refl _ _).drew.trans hbr1
      have hz1 := hb1.size
      have hcc1 : ∀ q : Addr, q.block < wr.heap.size → w1.cell? q = wr.cell? q := fun q hq => hb1.cell hq
      have hqq1 : (ad.add (j * 4)).block < w1.heap.size := by omega
      go_wp2_with fail
      refine (l_heldStringS w1.heap.size r.A _ r.c (x + 1 + 1 + 1) w1 (Reads.of_own (own_below hrow hb1)) (Nat.le_refl _) (by omega) (by omega) hsn).mono ?_
      rintro e w2 ⟨rfl, hb2⟩
      have hbw2 : Below w.heap.size w w2 := (hb.trans (hb1.mono hzr)).trans (hb2.mono (by omega))
      clear hbr1 hb1 hb2 hcc1 hrow hc0 hc1 hc2 hc3 hb
      go_wp2
      go_roundw
      case rel =>
        refine ⟨j + 1, x + 1 + 1 + 1 + r.x.ss.length, by omega, by go_num, by go_num, ?_, hbw2⟩
        unfold Hid
        rw [HCT.out, HXK.out]
        push_cast
        omega
      case measure => simp [intOf]; omega
    · have hjn : j = n := by omega
      subst hjn
      have ht : L.take j = L := List.take_of_length_le (by have := HL.out; omega)
      have hx : x = k + cntI P := by have h := HXK.out; rw [ht, HP.out] at h; exact h
      have HX := Lib.hid hx
      clear ht hx HXK HCL hbx
      go_wp2
      go_ret
      exact ⟨ret_int HX.out, hb⟩
theorem cells_litem : Tryz.prog.cellsOf 142 = 4 := by kernel_rfl
theorem cells_lcardI : Tryz.prog.cellsOf 24 = 3 := by kernel_rfl
theorem cells_slI : Tryz.prog.cellsOf 22 = 1 := by kernel_rfl
theorem trod_cardI {H : Type} {enc : TypeId × Value → H} {W : World} {n : Nat} {c0 c1 c2 : Value} {x : DataW H × List MemPlace} (h : DataW.trod enc Tryz.prog W 0 (fun _ => true) true n 24 [c0, c1, c2] = some x) :
    ∃ (d f : Int) (A : Option Addr) (c : Nat) (ss : List ByteArray), c0 = .int .i64 d ∧ c1 = .int .i64 f ∧ c2 = .slice A ss.length c ∧ Reads W W.heap.size 1 A ss.length (ss.map Value.string) ∧ ss.length ≤ maxLen ∧ ∀ s ∈ ss, s.size ≤ maxLen := by
  obtain ⟨m0, y0, h0⟩ := trod_field Tryz.underlying24 h 0 _ rfl cells_int
  obtain ⟨m1, y1, h1⟩ := trod_field Tryz.underlying24 h 1 _ rfl cells_int
  obtain ⟨m2, y2, h2⟩ := trod_field Tryz.underlying24 h 2 _ rfl cells_slI
  obtain ⟨d, e0, _, _⟩ := DataW.trod_int Tryz.underlying3 h0
  obtain ⟨f, e1, _, _⟩ := DataW.trod_int Tryz.underlying3 h1
  obtain ⟨A, n, c, ss, e2, hR, hm, hs⟩ := reads_strings h2
  simp at e0 e1 e2
  have hl : ss.length = n := by have := hR.1; simpa using this
  subst hl
  exact ⟨d, f, A, c, ss, e0, e1, e2, hR, hm, hs⟩
theorem trod_item {H : Type} {enc : TypeId × Value → H} {W : World} {n : Nat} {c0 c1 c2 c3 : Value} {x : DataW H × List MemPlace} (h : DataW.trod enc Tryz.prog W 0 (fun _ => true) true n 142 [c0, c1, c2, c3] = some x) :
    ∃ (nm : ByteArray) (d f : Int) (A : Option Addr) (c : Nat) (ss : List ByteArray), c0 = .string nm ∧ c1 = .int .i64 d ∧ c2 = .int .i64 f ∧ c3 = .slice A ss.length c ∧ Reads W W.heap.size 1 A ss.length (ss.map Value.string) ∧ ss.length ≤ maxLen ∧ (∀ s ∈ ss, s.size ≤ maxLen) ∧ nm.size ≤ maxLen := by
  obtain ⟨m0, y0, h0⟩ := trod_field Tryz.underlying142 h 0 _ rfl cells_str
  obtain ⟨m1, y1, h1⟩ := trod_field Tryz.underlying142 h 1 _ rfl cells_lcardI
  obtain ⟨nm, e0, _, hnm⟩ := DataW.trod_string Tryz.underlying9 h0
  obtain ⟨d, f, A, c, ss, e1, e2, e3, hR, hm, hs⟩ := trod_cardI h1
  simp at e0
  exact ⟨nm, d, f, A, c, ss, e0, e1, e2, e3, hR, hm, hs, hnm⟩
end Go.Proofs.YtdddglihomchfaaGreat
namespace Go.Proofs.YtdddglihomchfaaGreat
open Go.ChangeShapes Go.WideShapes Go.ChangeAt Go.RowKit
set_option linter.unusedVariables false
set_option maxRecDepth 10000
set_option maxHeartbeats 400000 in
theorem l_toPaper (k a b : Int) (w : World) : Calls Tryz.prog 125 #[.agg #[.int .i64 k, .int .i64 a, .int .i64 b]] w fun e w' => e = .returned (.agg #[.int .i64 k, .int .i64 a, .int .i64 b]) ∧ Below w.heap.size w w' := by
  go_enter Tryz.func125, Tryz.ntmps125
  go_wp2
  refine bodyPost_ret (v := .agg #[.int .i64 k, .int .i64 a, .int .i64 b]) (by simp [results, Tryz.results125, go_sem]) rfl ?_
  exact ⟨rfl, bel⟩
end Go.Proofs.YtdddglihomchfaaGreat
namespace Go.Proofs.YtdddglihomchfaaGreat
open Go.ChangeShapes Go.WideShapes Go.ChangeAt Go.RowKit
set_option linter.unusedVariables false
set_option maxRecDepth 10000
theorem info_paperCells : (Tryz.prog.info? 118).map (fun i => (i.zero, i.size, i.bytes)) = some (some (.agg #[.int .i64 0, .int .i64 0, .int .i64 0]), 3, 24) := by kernel_rfl
set_option maxHeartbeats 1600000 in
theorem l_eqPaper_same (k g s : Int) (w : World) : Calls Tryz.prog 135 #[.agg #[.int .i64 k, .int .i64 g, .int .i64 s], .agg #[.int .i64 k, .int .i64 g, .int .i64 s]] w fun e w' => e = .returned (.bool true) ∧ Below w.heap.size w w' := by
  go_enter Tryz.func135, Tryz.ntmps135
  go_wp2
  go_ret
  exact ⟨rfl, bel⟩
def FreshPapers (base : Nat) (l : List PPaper) (w : World) (e : Ending) (w' : World) : Prop :=
  ∃ A c, e = .returned (.slice A l.length c) ∧ w'.ownsRow base 118 3 (.slice A l.length c) l.length (l.flatMap paperCells) ∧ Below w.heap.size w w'
set_option maxHeartbeats 1600000 in
theorem l_toPaperS (B : Nat) (A : Option Addr) (n c : Nat) (l : List PPaper) (w : World) (hS : Papers w B A n l) (hB : B ≤ w.heap.size) :
    Calls Tryz.prog 68 #[.slice A n c] w (FreshPapers w.heap.size l w) := by
  have hn := hS.nb
  have hl := hS.len
  have HL := Lib.hid hl
  clear hl
  obtain ⟨i0, hi0, hz0, hz1, hz2⟩ := info_parts info_paperCells
  have hmk := run_make_rowN (P := Tryz.prog) 39 118 i0 _ Tryz.underlying39 hi0 hz0 .i64 .i64 n n (Nat.le_refl _) (by rw [hz2]; omega) (by omega) w
  rw [hz1] at hmk
  go_enter Tryz.func68, Tryz.ntmps68
  go_wp2
  go_loopw [4] (fun i wr => ∃ j : Nat, j ≤ n ∧ i = .int .i64 j ∧ wr.ownsRow w.heap.size 118 3 (.slice (some ⟨w.heap.size, 0, none⟩) n n) n ((l.take j).flatMap paperCells ++ reps [.int .i64 0, .int .i64 0, .int .i64 0] (n - j)) ∧ Below w.heap.size w wr) (fun i _ => n - (intOf i).toNat)
  case atStart =>
    refine ⟨0, Nat.zero_le _, rfl, ?_, bel⟩
    have h := World.ownsRow_lit (w := w) (base := w.heap.size) (e := 118) (size := 3) (madeCells #[Value.int .i64 0, .int .i64 0, .int .i64 0] (n * 3)) n (Nat.le_refl _) (by unfold maxLen; omega) (by simp [madeCells])
    have hm := made_reps [Value.int .i64 0, .int .i64 0, .int .i64 0] n (by simp)
    rw [show (madeCells #[Value.int .i64 0, .int .i64 0, .int .i64 0] (n * 3)).toList = reps [Value.int .i64 0, .int .i64 0, .int .i64 0] n from hm] at h
    simpa using h
  case round =>
    obtain ⟨j, hj, rfl, hown, hb⟩ := hrel
    by_cases hlt : j < n
    · obtain ⟨hk1, ad, rfl, hab, hc0, hc1, hc2⟩ := (hS.below (hb.mono hB)).at_ hlt
      have hjn : j * 3 + 3 ≤ n * 3 := by omega
      go_wp2_with (go_at_call 125; refine (l_toPaper _ _ _ _).mono ?_; rintro e w1 ⟨rfl, hb1⟩; have ho1 := own_below hown hb1; obtain ⟨u0, hu0⟩ := own_cellk ho1 (j * 3) (by omega); have hf0 := ho1.frozenAt (j * 3); obtain ⟨u1, hu1⟩ := own_cellk ho1 (j * 3 + 1) (by omega); have hf1 := ho1.frozenAt (j * 3 + 1); obtain ⟨u2, hu2⟩ := own_cellk ho1 (j * 3 + 2) (by omega); have hf2 := ho1.frozenAt (j * 3 + 2))
      go_roundw
      case rel =>
        have hst0 := ho1.stored (j * 3) (.int .i64 l[j].k)
        have hst1 := hst0.1.stored (j * 3 + 1) (.int .i64 l[j].g)
        have hst2 := hst1.1.stored (j * 3 + 2) (.int .i64 l[j].s)
        have hgr := only_trans ( only_trans (hst0.2) hst1.2) hst2.2
        refine ⟨j + 1, by omega, by go_num, ?_, only_below_B (hb.trans (hb1.mono hb.size)) hgr⟩
        have ho2 := hst2.1
        have hA : ((l.take j).flatMap paperCells).length = j * 3 := by rw [flat_len paperCells_len, List.length_take, Nat.min_eq_left (by omega)]
        have hR : reps [.int .i64 0, .int .i64 0, .int .i64 0] (n - j) = [.int .i64 0, .int .i64 0, .int .i64 0] ++ reps [.int .i64 0, .int .i64 0, .int .i64 0] (n - (j + 1)) := by rw [show n - j = (n - (j + 1)) + 1 from by omega, reps_succ]
        rw [hR, set3 _ _ (j * 3) hA, ← List.append_assoc] at ho2
        have hT : (l.take (j + 1)).flatMap paperCells = (l.take j).flatMap paperCells ++ [.int .i64 l[j].k, .int .i64 l[j].g, .int .i64 l[j].s] := by rw [List.take_succ_eq_append_getElem hk1, flat_snoc]; rfl
        rw [hT]; exact ho2
      case measure => simp [intOf]; omega
    · have hjn : j = n := by omega
      subst hjn
      have hE : (l.take j).flatMap paperCells ++ reps [.int .i64 0, .int .i64 0, .int .i64 0] (j - j) = l.flatMap paperCells := by
        rw [List.take_of_length_le (by have := HL.out; omega)]; simp [reps]
      rw [hE] at hown
      clear hE
      have HO := hide hown
      clear hown
      go_wp2
      go_ret
      have hl := HL.out
      subst hl
      exact ⟨_, _, rfl, unhide HO, hb⟩
set_option maxHeartbeats 1600000 in
theorem l_eqPaperS_same (B : Nat) (A1 A2 : Option Addr) (n c1 c2 : Nat) (l : List PPaper) (w : World) (h1 : Papers w B A1 n l) (h2 : Papers w B A2 n l) (hB : B ≤ w.heap.size) :
    Calls Tryz.prog 75 #[.slice A1 n c1, .slice A2 n c2] w fun e w' => e = .returned (.bool true) ∧ Below w.heap.size w w' := by
  have hn := h1.nb
  go_enter Tryz.func75, Tryz.ntmps75
  go_wp2
  go_loopw [5] (fun i wr => ∃ j : Nat, j ≤ n ∧ i = .int .i64 j ∧ Below w.heap.size w wr) (fun i _ => n - (intOf i).toNat)
  case atStart => exact ⟨0, Nat.zero_le _, rfl, Below.refl _ _⟩
  case round =>
    obtain ⟨j, hj, rfl, hb⟩ := hrel
    have hzr := hb.size
    by_cases hlt : j < n
    · obtain ⟨hk1, ad1, rfl, hab1, ha0, ha1, ha2⟩ := (h1.below (hb.mono hB)).at_ hlt
      obtain ⟨hk2, ad2, rfl, hab2, hc0, hc1, hc2⟩ := (h2.below (hb.mono hB)).at_ hlt
      have hq1 : (ad1.add (j * 3)).block < wr.heap.size := by rw [block_of_add]; omega
      have hq2 : (ad2.add (j * 3)).block < wr.heap.size := by rw [block_of_add]; omega
      go_wp2
      go_region_held3 (fun W => (∀ p : Addr, p.block < wr.heap.size → W.cell? p = (wr).cell? p) ∧ (∀ p : Addr, p.block < wr.heap.size → W.frozen? p = (wr).frozen? p) ∧ Below (wr.heap.size) (wr) W) (exact keep_ofP bel) ((go_at_call 135; refine (l_eqPaper_same _ _ _ _).mono ?_; rintro e w3 ⟨rfl, hb3⟩))
      have hb3' : Below wr.heap.size wr w3 := (Below.refl _ _).drew.trans hb3
      go_wp2
      go_roundw
      case rel => exact ⟨j + 1, by omega, by go_num, hb.trans (hb3'.mono hzr)⟩
      case measure => simp [intOf]; omega
    · go_wp2
      go_ret
      exact ⟨rfl, hb⟩
def mkPaper (k : Int) : List Value := [.int .i64 (k), .int .i64 (k + 1), .int .i64 (k + 1 + 1)]
theorem mkPaper_len (k : Int) : (mkPaper k).length = 3 := rfl
def marksPaper (k : Int) (n : Nat) : List Value := (List.range n).flatMap fun (i : Nat) => mkPaper (k + 3 * (i : Int))
theorem marksPaper_len (k : Int) (n : Nat) : (marksPaper k n).length = n * 3 := by unfold marksPaper; rw [flat_len (fun (i : Nat) => mkPaper_len _)]; simp
theorem marksPaper_succ (k : Int) (n : Nat) : marksPaper k (n + 1) = marksPaper k n ++ mkPaper (k + 3 * (n : Int)) := by unfold marksPaper; rw [List.range_succ, flat_snoc]
theorem marksPaper_get (k : Int) (n i j : Nat) (hi : i < n) (hj : j < 3) : (marksPaper k n)[i * 3 + j]? = (mkPaper (k + 3 * (i : Int)))[j]? := by
  unfold marksPaper
  rw [flat_get (fun (i : Nat) => mkPaper_len _) _ i j (by simpa using hi) hj]; simp
theorem drop_rowPaper (xs : List Value) (n j : Nat) (hx : xs.length = n * 3) (hj : j < n) : ∃ z0 z1 z2 : Value, xs.drop (j * 3) = [z0, z1, z2] ++ xs.drop ((j + 1) * 3) := by
  have hlt : j * 3 + 3 ≤ xs.length := by rw [hx]; omega
  refine ⟨xs[j * 3], xs[j * 3 + 1], xs[j * 3 + 2], ?_⟩
  rw [show (j + 1) * 3 = j * 3 + 3 by omega]
  rw [List.drop_eq_getElem_cons (show j * 3 < xs.length by omega), List.drop_eq_getElem_cons (show j * 3 + 1 < xs.length by omega), List.drop_eq_getElem_cons (show j * 3 + 2 < xs.length by omega)]
  rfl
set_option maxHeartbeats 1600000 in
theorem l_markPaperS (base : Nat) (A : Option Addr) (n c : Nat) (xs : List Value) (k : Int) (w : World) (hO : w.ownsRow base 118 3 (.slice A n c) n xs) (hk0 : 0 ≤ k) (hk1 : k ≤ 4503599627370496) (hn : n ≤ 16777216) :
    Calls Tryz.prog 84 #[.slice A n c, .int .i64 k] w fun e w' => e = .returned (.int .i64 (k + 3 * (n : Int))) ∧ w'.ownsRow base 118 3 (.slice A n c) n (marksPaper k n) ∧ w.grownBy w' (Value.slice A n c).ownBlock := by
  go_enter Tryz.func84, Tryz.ntmps84
  go_wp2
  go_loopw [1, 5] (fun q i wr => ∃ j : Nat, j ≤ n ∧ i = .int .i64 j ∧ q = .int .i64 (k + 3 * (j : Int)) ∧ wr.ownsRow base 118 3 (.slice A n c) n (marksPaper k j ++ xs.drop (j * 3)) ∧ w.grownBy wr (Value.slice A n c).ownBlock) (fun _ i _ => n - (intOf i).toNat)
  case atStart => exact ⟨0, Nat.zero_le _, rfl, by simp, by simpa [marksPaper] using hO, World.grownBy.refl w _⟩
  case round =>
    obtain ⟨j, hj, rfl, rfl, hown, hg⟩ := hrel
    have hxl : xs.length = n * 3 := hO.1
    have HX := Lib.hid hxl
    clear hxl
    by_cases hlt : j < n
    · obtain ⟨g, cap, hv, hbg, hglt⟩ := hown.form (by omega)
      have hA : A = some ⟨g, 0, none⟩ := by injection hv
      subst hA
      clear hv
      obtain ⟨z0, z1, z2, hz⟩ := drop_rowPaper xs n j HX.out hlt
      have HZ := Lib.hid hz
      clear hz
      have hjn : j * 3 + 3 ≤ n * 3 := by omega
      obtain ⟨u0, hu0⟩ := own_cellk hown (j * 3) (by omega); have hf0 := hown.frozenAt (j * 3); obtain ⟨u1, hu1⟩ := own_cellk hown (j * 3 + 1) (by omega); have hf1 := hown.frozenAt (j * 3 + 1); obtain ⟨u2, hu2⟩ := own_cellk hown (j * 3 + 2) (by omega); have hf2 := hown.frozenAt (j * 3 + 2)
      go_wp2
      have hst0 := (hown).stored (j * 3) (.int .i64 (k + 3 * (j : Int)))
      have hgr0 := only_trans hg hst0.2
      have hst1 := (hst0.1).stored (j * 3 + 1) (.int .i64 (k + 3 * (j : Int) + 1))
      have hgr1 := only_trans hgr0 hst1.2
      have hst2 := (hst1.1).stored (j * 3 + 2) (.int .i64 (k + 3 * (j : Int) + 1 + 1))
      have hgr2 := only_trans hgr1 hst2.2
      go_roundw
      case rel =>
        refine ⟨j + 1, by omega, by go_num, by congr 1; omega, ?_, hgr2⟩
        have ho9 := hst2.1
        rw [HZ.out, set3 _ _ (j * 3) (marksPaper_len _ _), ← List.append_assoc] at ho9
        rw [marksPaper_succ]; exact ho9
      case measure => simp [intOf]; omega
    · have hjn : j = n := by omega
      subst hjn
      have hd : xs.drop (j * 3) = [] := List.drop_eq_nil_of_le (by have := HX.out; omega)
      rw [hd, List.append_nil] at hown
      clear hd
      go_wp2
      go_ret
      exact ⟨rfl, hown, hg⟩
set_option maxHeartbeats 1600000 in
theorem l_heldPaperS (B : Nat) (A : Option Addr) (n c : Nat) (k : Int) (w : World) (hR : Reads w B 3 A n (marksPaper k n)) (hB : B ≤ w.heap.size) (hk0 : 0 ≤ k) (hk1 : k ≤ 4503599627370496) (hn : n ≤ 16777216) :
    Calls Tryz.prog 87 #[.slice A n c, .int .i64 k] w fun e w' => e = .returned (.int .i64 (k + 3 * (n : Int))) ∧ Below w.heap.size w w' := by
  go_enter Tryz.func87, Tryz.ntmps87
  go_wp2
  go_loopw [1, 5] (fun q i wr => ∃ j : Nat, j ≤ n ∧ i = .int .i64 j ∧ q = .int .i64 (k + 3 * (j : Int)) ∧ Below w.heap.size w wr) (fun _ i _ => n - (intOf i).toNat)
  case atStart => exact ⟨0, Nat.zero_le _, rfl, by simp, Below.refl _ _⟩
  case round =>
    obtain ⟨j, hj, rfl, rfl, hb⟩ := hrel
    have hzr := hb.size
    by_cases hlt : j < n
    · obtain ⟨ad, hA, hab, hc⟩ := (hR.below (hb.mono hB)).2 (by omega)
      subst hA
      have hg := fun i hi => marksPaper_get k n j i hlt hi
      have hc0 : wr.cell? (ad.add (j * 3)) = some (.int .i64 (k + 3 * (j : Int))) := hc _ _ (hg 0 (by omega))
      have hc1 : wr.cell? ⟨(ad.add (j * 3)).block, (ad.add (j * 3)).off + 1, none⟩ = some (.int .i64 (k + 3 * (j : Int) + 1)) := by rw [← add_next _ _ _ (by omega)]; exact hc _ _ (hg 1 (by omega))
      have hc2 : wr.cell? ⟨(ad.add (j * 3)).block, (ad.add (j * 3)).off + 2, none⟩ = some (.int .i64 (k + 3 * (j : Int) + 1 + 1)) := by rw [← add_next _ _ _ (by omega)]; exact hc _ _ (hg 2 (by omega))
      have hq1 : (ad.add (j * 3)).block < wr.heap.size := by rw [block_of_add]; omega
      clear hg hc
      go_wp2
      go_roundw
      case rel => exact ⟨j + 1, by omega, by go_num, by congr 1; omega, bel⟩
      case measure => simp [intOf]; omega
    · have hjn : j = n := by omega
      subst hjn
      go_wp2
      go_ret
      exact ⟨rfl, hb⟩
end Go.Proofs.YtdddglihomchfaaGreat
namespace Go.Proofs.YtdddglihomchfaaGreat
open Go.ChangeShapes Go.WideShapes Go.ChangeAt Go.RowKit
set_option linter.unusedVariables false
set_option linter.unusedSimpArgs false
set_option maxRecDepth 10000
structure OwnP (w : World) (lo hi : Nat) (A : Option Addr) (c : Nat) (l : List PPaper) : Prop where
  row : w.ownsRow lo 118 3 (.slice A l.length c) l.length (l.flatMap paperCells)
  top : ∀ k, (Value.slice A l.length c).ownBlock = some k → k < hi
section
variable {lo hi lo' hi' : Nat} {w w' : World} {A : Option Addr} {c : Nat} {l : List PPaper}
theorem OwnP.within {a h : Nat} (ho : OwnP w lo hi A c l) (hW : Within a h w w') (hd : hi ≤ a ∨ h ≤ lo) : OwnP w' lo hi A c l :=
  ⟨own_within ho.row hW (fun k hk => by have h1 := ho.top k hk; have h2 := (ho.row.lt k hk).1; omega), ho.top⟩
theorem OwnP.below (ho : OwnP w lo hi A c l) (hb : Below w.heap.size w w') : OwnP w' lo hi A c l := ⟨own_below ho.row hb, ho.top⟩
theorem OwnP.boxy (ho : OwnP w lo hi A c l) (h : Boxy w w') : OwnP w' lo hi A c l := ⟨own_boxy ho.row (by decide) h, ho.top⟩
theorem OwnP.alloc (ho : OwnP w lo hi A c l) (o : Obj) : OwnP (w.alloc o) lo hi A c l := ⟨ho.row.alloc _, ho.top⟩
theorem OwnP.of (ho : w.ownsRow lo 118 3 (.slice A l.length c) l.length (l.flatMap paperCells)) (h : w.heap.size ≤ hi) : OwnP w lo hi A c l := ⟨ho, fun k hk => by have := (ho.lt k hk).2; omega⟩
theorem OwnP.rd (ho : OwnP w lo hi A c l) (hn : l.length ≤ 16777216) : Papers w w.heap.size A l.length l := ⟨Reads.of_own ho.row, hn⟩
end
structure OkWork (D : PDraft) (P : List PItem) (pp : List PPaper) (m : Nat) : Prop where
  d : OkDraft D m
  i : OkItems P m
  p : pp.length ≤ m
theorem OkWork.more {D : PDraft} {P : List PItem} {pp : List PPaper} {m k : Nat} (h : OkWork D P pp m) (hk : m ≤ k) : OkWork D P pp k := ⟨h.d.more hk, h.i.more hk, by have := h.p; omega⟩
structure RdWork0 (w : World) (B : Nat) (A1 A2 A3 A4 A5 : Option Addr) (D : PDraft) (P : List PItem) (pp : List PPaper) : Prop where
  d : RdDraft w B A1 A2 A3 D
  i : ∃ L, plI L = P ∧ Items w B A4 P.length L
  p : Papers w B A5 pp.length pp
theorem RdWork0.below {w w' : World} {B : Nat} {A1 A2 A3 A4 A5 : Option Addr} {D : PDraft} {P : List PItem} {pp : List PPaper} (h : RdWork0 w B A1 A2 A3 A4 A5 D P pp) (hb : Below B w w') : RdWork0 w' B A1 A2 A3 A4 A5 D P pp := ⟨h.d.below hb, h.i.elim fun L q => ⟨L, q.1, q.2.below hb⟩, h.p.below hb⟩
structure RdWork (w : World) (B : Nat) (A1 A2 A3 A4 : Option Addr) (c4 : Nat) (A5 : Option Addr) (D : PDraft) (P : List PItem) (pp : List PPaper) : Prop where
  d : RdDraft w B A1 A2 A3 D
  i : ∃ L, plI L = P ∧ Items w B A4 P.length L
  p : Papers w B A5 pp.length pp
  cap : P.length ≤ c4 ∧ c4 ≤ 9223372036854775807 ∧ (A4 = none → c4 = 0)
section
variable {w w' : World} {B B' : Nat} {A1 A2 A3 A4 A5 : Option Addr} {c4 : Nat} {D : PDraft} {P : List PItem} {pp : List PPaper}
theorem RdWork.below (h : RdWork w B A1 A2 A3 A4 c4 A5 D P pp) (hb : Below B w w') : RdWork w' B A1 A2 A3 A4 c4 A5 D P pp := ⟨h.d.below hb, h.i.elim fun L q => ⟨L, q.1, q.2.below hb⟩, h.p.below hb, h.cap⟩
theorem RdWork.alloc (h : RdWork w B A1 A2 A3 A4 c4 A5 D P pp) (hB : B ≤ w.heap.size) (o : Obj) : RdWork (w.alloc o) B A1 A2 A3 A4 c4 A5 D P pp := ⟨h.d.alloc hB o, h.i.elim fun L q => ⟨L, q.1, q.2.alloc hB o⟩, h.p.alloc hB o, h.cap⟩
end
theorem own_capU {w : World} {base n c size : Nat} {e : TypeId} {A : Option Addr} {xs : List Value} (h : w.ownsRow base e size (.slice A n c) n xs) : n ≤ c ∧ c ≤ 9223372036854775807 ∧ (A = none → c = 0) := by
  rcases h.2 with ⟨hv, h0⟩ | ⟨g', cap, cur, hv, _, _, h1, h2, _⟩
  · injection hv with e1 _ e3; exact ⟨by omega, by omega, fun _ => e3⟩
  · injection hv with e1 _ e3; subst e3; unfold maxLen at h2; exact ⟨h1, by omega, fun h => by rw [e1] at h; cases h⟩
structure OwnW (w : World) (lo hi : Nat) (A1 : Option Addr) (c1 : Nat) (A2 : Option Addr) (c2 : Nat) (A3 : Option Addr) (c3 : Nat) (A4 : Option Addr) (c4 : Nat) (A5 : Option Addr) (c5 : Nat) (D : PDraft) (P : List PItem) (pp : List PPaper) : Prop where
  all : ∃ l1 h1 l2 h2 l3 h3 L, (lo ≤ l1 ∧ h1 ≤ hi ∧ lo ≤ l2 ∧ h2 ≤ hi ∧ lo ≤ l3 ∧ h3 ≤ hi) ∧ ((h1 ≤ l2 ∨ h2 ≤ l1) ∧ (h1 ≤ l3 ∨ h3 ≤ l1) ∧ (h2 ≤ l3 ∨ h3 ≤ l2)) ∧ OwnDW w l1 h1 A1 c1 A2 c2 A3 c3 D ∧ plI L = P ∧ OwnItems w l2 h2 A4 P.length c4 L ∧ OwnP w l3 h3 A5 c5 pp
section
variable {lo hi lo' hi' : Nat} {w w' : World} {A1 A2 A3 A4 A5 : Option Addr} {c1 c2 c3 c4 c5 : Nat} {D : PDraft} {P : List PItem} {pp : List PPaper}
theorem OwnW.mk3 {l1 h1 l2 h2 l3 h3 : Nat} {L : List RItem} (hd : OwnDW w l1 h1 A1 c1 A2 c2 A3 c3 D) (hp : plI L = P) (hi_ : OwnItems w l2 h2 A4 P.length c4 L) (hpp : OwnP w l3 h3 A5 c5 pp) (hr : lo ≤ l1 ∧ h1 ≤ hi ∧ lo ≤ l2 ∧ h2 ≤ hi ∧ lo ≤ l3 ∧ h3 ≤ hi) (ha : (h1 ≤ l2 ∨ h2 ≤ l1) ∧ (h1 ≤ l3 ∨ h3 ≤ l1) ∧ (h2 ≤ l3 ∨ h3 ≤ l2)) : OwnW w lo hi A1 c1 A2 c2 A3 c3 A4 c4 A5 c5 D P pp := ⟨⟨l1, h1, l2, h2, l3, h3, L, hr, ha, hd, hp, hi_, hpp⟩⟩
theorem OwnW.within {l h : Nat} (ho : OwnW w lo hi A1 c1 A2 c2 A3 c3 A4 c4 A5 c5 D P pp) (hW : Within l h w w') (hd : hi ≤ l ∨ h ≤ lo) : OwnW w' lo hi A1 c1 A2 c2 A3 c3 A4 c4 A5 c5 D P pp := by
  obtain ⟨l1, h1, l2, h2, l3, h3, L, hr, ha, x, hp, y, z⟩ := ho.all
  exact .mk3 (x.within hW (by omega)) hp (y.within hW (by omega)) (z.within hW (by omega)) hr ha
theorem OwnW.below (ho : OwnW w lo hi A1 c1 A2 c2 A3 c3 A4 c4 A5 c5 D P pp) (hb : Below w.heap.size w w') : OwnW w' lo hi A1 c1 A2 c2 A3 c3 A4 c4 A5 c5 D P pp := by
  obtain ⟨l1, h1, l2, h2, l3, h3, L, hr, ha, x, hp, y, z⟩ := ho.all
  exact .mk3 (x.below hb) hp (y.below hb) (z.below hb) hr ha
theorem OwnW.boxy (ho : OwnW w lo hi A1 c1 A2 c2 A3 c3 A4 c4 A5 c5 D P pp) (h : Boxy w w') : OwnW w' lo hi A1 c1 A2 c2 A3 c3 A4 c4 A5 c5 D P pp := by
  obtain ⟨l1, h1, l2, h2, l3, h3, L, hr, ha, x, hp, y, z⟩ := ho.all
  exact .mk3 (x.boxy h) hp (y.boxy h) (z.boxy h) hr ha
theorem OwnW.alloc (ho : OwnW w lo hi A1 c1 A2 c2 A3 c3 A4 c4 A5 c5 D P pp) (o : Obj) : OwnW (w.alloc o) lo hi A1 c1 A2 c2 A3 c3 A4 c4 A5 c5 D P pp := by
  obtain ⟨l1, h1, l2, h2, l3, h3, L, hr, ha, x, hp, y, z⟩ := ho.all
  exact .mk3 (x.alloc o) hp (y.alloc o) (z.alloc o) hr ha
theorem OwnW.wide (ho : OwnW w lo hi A1 c1 A2 c2 A3 c3 A4 c4 A5 c5 D P pp) (k1 : lo' ≤ lo) (k2 : hi ≤ hi') : OwnW w lo' hi' A1 c1 A2 c2 A3 c3 A4 c4 A5 c5 D P pp := by
  obtain ⟨l1, h1, l2, h2, l3, h3, L, hr, ha, x, hp, y, z⟩ := ho.all
  exact .mk3 x hp y z (by omega) ha
theorem OwnW.rd (ho : OwnW w lo hi A1 c1 A2 c2 A3 c3 A4 c4 A5 c5 D P pp) (hk : OkWork D P pp 16777216) : RdWork w w.heap.size A1 A2 A3 A4 c4 A5 D P pp := by
  obtain ⟨l1, h1, l2, h2, l3, h3, L, hr, ha, x, hp, y, z⟩ := ho.all
  exact ⟨x.rd hk.d, ⟨L, hp, y.rdP hp hk.i⟩, z.rd hk.p, own_capU y.row⟩
end
def UWork (d1 f1 : Int) (ss1 : List ByteArray) (d2 f2 : Int) (ss2 : List ByteArray) (st : List PStep) (P : List PItem) (pp : List PPaper) (m : Int) (w : World) (e : Ending) (w' : World) : Prop :=
  ∃ B1 e1 B2 e2 B3 e3 B4 e4 B5 e5, e = .returned (.agg #[.int .i64 d1, .int .i64 f1, .slice B1 ss1.length e1, .int .i64 d2, .int .i64 f2, .slice B2 ss2.length e2, .slice B3 st.length e3, .slice B4 P.length e4, .slice B5 pp.length e5, .int .i64 m]) ∧ OwnW w' w.heap.size w'.heap.size B1 e1 B2 e2 B3 e3 B4 e4 B5 e5 ⟨d1, f1, ss1, d2, f2, ss2, st⟩ P pp ∧ Below w.heap.size w w'
def UWorkB (d1 f1 : Int) (ss1 : List ByteArray) (d2 f2 : Int) (ss2 : List ByteArray) (st : List PStep) (P : List PItem) (pp : List PPaper) (m : Int) (b : Bool) (w : World) (e : Ending) (w' : World) : Prop :=
  ∃ B1 e1 B2 e2 B3 e3 B4 e4 B5 e5, e = .returned (.tuple #[.agg #[.int .i64 d1, .int .i64 f1, .slice B1 ss1.length e1, .int .i64 d2, .int .i64 f2, .slice B2 ss2.length e2, .slice B3 st.length e3, .slice B4 P.length e4, .slice B5 pp.length e5, .int .i64 m], .bool b]) ∧ OwnW w' w.heap.size w'.heap.size B1 e1 B2 e2 B3 e3 B4 e4 B5 e5 ⟨d1, f1, ss1, d2, f2, ss2, st⟩ P pp ∧ Below w.heap.size w w'
def UWorkI (d1 f1 : Int) (ss1 : List ByteArray) (d2 f2 : Int) (ss2 : List ByteArray) (st : List PStep) (P : List PItem) (pp : List PPaper) (m : Int) (x : Int) (w : World) (e : Ending) (w' : World) : Prop :=
  ∃ B1 e1 B2 e2 B3 e3 B4 e4 B5 e5, e = .returned (.tuple #[.agg #[.int .i64 d1, .int .i64 f1, .slice B1 ss1.length e1, .int .i64 d2, .int .i64 f2, .slice B2 ss2.length e2, .slice B3 st.length e3, .slice B4 P.length e4, .slice B5 pp.length e5, .int .i64 m], .int .i64 x]) ∧ OwnW w' w.heap.size w'.heap.size B1 e1 B2 e2 B3 e3 B4 e4 B5 e5 ⟨d1, f1, ss1, d2, f2, ss2, st⟩ P pp ∧ Below w.heap.size w w'
theorem blk10_set7 {w : World} {g : Nat} {t : TypeId} {z0 z1 z2 z3 z4 z5 z6 z7 z8 z9 : Value} (h : w.heap[g]? = some (.cells #[z0, z1, z2, z3, z4, z5, z6, z7, z8, z9] t (0, 0))) (a0 a1 a2 a3 a4 a5 a6 : Value) :
    (((((((w.setCell ⟨g, 0, none⟩ a0).setCell ⟨g, 1, none⟩ a1).setCell ⟨g, 2, none⟩ a2).setCell ⟨g, 3, none⟩ a3).setCell ⟨g, 4, none⟩ a4).setCell ⟨g, 5, none⟩ a5).setCell ⟨g, 6, none⟩ a6).heap[g]? = some (.cells #[a0, a1, a2, a3, a4, a5, a6, z7, z8, z9] t (0, 0)) := by
  have := blk_set (blk_set (blk_set (blk_set (blk_set (blk_set (blk_set h 0 a0) 1 a1) 2 a2) 3 a3) 4 a4) 5 a5) 6 a6
  simpa using this
theorem blk_other7 {w : World} {g g2 : Nat} {o : Obj} (h : w.heap[g]? = some o) (hne : g ≠ g2) (a0 a1 a2 a3 a4 a5 a6 : Value) : (((((((w.setCell ⟨g2, 0, none⟩ a0).setCell ⟨g2, 1, none⟩ a1).setCell ⟨g2, 2, none⟩ a2).setCell ⟨g2, 3, none⟩ a3).setCell ⟨g2, 4, none⟩ a4).setCell ⟨g2, 5, none⟩ a5).setCell ⟨g2, 6, none⟩ a6).heap[g]? = some o :=
  blk_other (blk_other (blk_other (blk_other (blk_other (blk_other (blk_other h hne _) hne _) hne _) hne _) hne _) hne _) hne _
theorem blk10f {w : World} {g : Nat} {t : TypeId} {a0 a1 a2 a3 a4 a5 a6 a7 a8 a9 : Value} (h : w.heap[g]? = some (.cells #[a0, a1, a2, a3, a4, a5, a6, a7, a8, a9] t (0, 0))) :
    (w.frozen? ⟨g, 0, none⟩ = false ∧ w.frozen? ⟨g, 1, none⟩ = false ∧ w.frozen? ⟨g, 2, none⟩ = false ∧ w.frozen? ⟨g, 3, none⟩ = false ∧ w.frozen? ⟨g, 4, none⟩ = false) ∧ (w.frozen? ⟨g, 5, none⟩ = false ∧ w.frozen? ⟨g, 6, none⟩ = false ∧ w.frozen? ⟨g, 7, none⟩ = false ∧ w.frozen? ⟨g, 8, none⟩ = false ∧ w.frozen? ⟨g, 9, none⟩ = false) :=
  ⟨⟨(blk_cells h 0).2, (blk_cells h 1).2, (blk_cells h 2).2, (blk_cells h 3).2, (blk_cells h 4).2⟩, (blk_cells h 5).2, (blk_cells h 6).2, (blk_cells h 7).2, (blk_cells h 8).2, (blk_cells h 9).2⟩
theorem only7 {w : World} {g : Nat} (a0 a1 a2 a3 a4 a5 a6 : Value) : w.grownBy (((((((w.setCell ⟨g, 0, none⟩ a0).setCell ⟨g, 1, none⟩ a1).setCell ⟨g, 2, none⟩ a2).setCell ⟨g, 3, none⟩ a3).setCell ⟨g, 4, none⟩ a4).setCell ⟨g, 5, none⟩ a5).setCell ⟨g, 6, none⟩ a6) (some g) := by
  repeat (first | (with_reducible exact World.grownBy.refl _ _) | (with_reducible refine only_setCell ?_ (.inl rfl) _))
theorem only1 {w : World} {g i : Nat} (a : Value) : w.grownBy (w.setCell ⟨g, i, none⟩ a) (some g) := only_setCell (World.grownBy.refl _ _) (.inl rfl) _
set_option maxHeartbeats 1600000 in
theorem u_eqWorkshop (d1 f1 : Int) (ss1 : List ByteArray) (d2 f2 : Int) (ss2 : List ByteArray) (st : List PStep) (P : List PItem) (pp : List PPaper) (m : Int) (A1 A2 A3 A4 A5 B1 B2 B3 B4 B5 : Option Addr) (c1 c2 c3 c4 c5 e1 e2 e3 e4 e5 : Nat) (lo1 hi1 lo2 hi2 : Nat) (w : World) (h1 : OwnW w lo1 hi1 A1 c1 A2 c2 A3 c3 A4 c4 A5 c5 ⟨d1, f1, ss1, d2, f2, ss2, st⟩ P pp) (h2 : OwnW w lo2 hi2 B1 e1 B2 e2 B3 e3 B4 e4 B5 e5 ⟨d1, f1, ss1, d2, f2, ss2, st⟩ P pp) (hok : OkWork ⟨d1, f1, ss1, d2, f2, ss2, st⟩ P pp 16777216) :
    Calls Tryz.prog 19 #[.agg #[.int .i64 d1, .int .i64 f1, .slice A1 ss1.length c1, .int .i64 d2, .int .i64 f2, .slice A2 ss2.length c2, .slice A3 st.length c3, .slice A4 P.length c4, .slice A5 pp.length c5, .int .i64 m], .agg #[.int .i64 d1, .int .i64 f1, .slice B1 ss1.length e1, .int .i64 d2, .int .i64 f2, .slice B2 ss2.length e2, .slice B3 st.length e3, .slice B4 P.length e4, .slice B5 pp.length e5, .int .i64 m]] w fun e w' => e = .returned (.bool true) ∧ Below w.heap.size w w' := by
  have HO := hide hok
  obtain ⟨a1, b1, a2, b2, a3, b3, L1, hr, ha, x1, hp1, y1, z1⟩ := h1.all
  obtain ⟨a1', b1', a2', b2', a3', b3', L2, hr', ha', x2, hp2, y2, z2⟩ := h2.all
  have HP1 := Lib.hid hp1
  have HP2 := Lib.hid hp2
  clear hr ha hr' ha' hp1 hp2 h1 h2 hok
  go_enter Tryz.func19, Tryz.ntmps19
  go_wp2_with fail
  have hb0 : Below w.heap.size w ((w.alloc (.cells #[.int .i64 d1, .int .i64 f1, .slice A1 ss1.length c1, .int .i64 d2, .int .i64 f2, .slice A2 ss2.length c2, .slice A3 st.length c3, .slice A4 P.length c4, .slice A5 pp.length c5, .int .i64 m] 41)).alloc (.cells #[.int .i64 d1, .int .i64 f1, .slice B1 ss1.length e1, .int .i64 d2, .int .i64 f2, .slice B2 ss2.length e2, .slice B3 st.length e3, .slice B4 P.length e4, .slice B5 pp.length e5, .int .i64 m] 41)) := ((Below.refl _ _).alloc (Nat.le_refl _) _).alloc (by simp) _
  have hka : ((w.alloc (.cells #[.int .i64 d1, .int .i64 f1, .slice A1 ss1.length c1, .int .i64 d2, .int .i64 f2, .slice A2 ss2.length c2, .slice A3 st.length c3, .slice A4 P.length c4, .slice A5 pp.length c5, .int .i64 m] 41)).alloc (.cells #[.int .i64 d1, .int .i64 f1, .slice B1 ss1.length e1, .int .i64 d2, .int .i64 f2, .slice B2 ss2.length e2, .slice B3 st.length e3, .slice B4 P.length e4, .slice B5 pp.length e5, .int .i64 m] 41)).heap[w.heap.size]? = some (.cells #[.int .i64 d1, .int .i64 f1, .slice A1 ss1.length c1, .int .i64 d2, .int .i64 f2, .slice A2 ss2.length c2, .slice A3 st.length c3, .slice A4 P.length c4, .slice A5 pp.length c5, .int .i64 m] 41 (0, 0)) := blk_alloc (blk_new _ _) _
  have hko : ((w.alloc (.cells #[.int .i64 d1, .int .i64 f1, .slice A1 ss1.length c1, .int .i64 d2, .int .i64 f2, .slice A2 ss2.length c2, .slice A3 st.length c3, .slice A4 P.length c4, .slice A5 pp.length c5, .int .i64 m] 41)).alloc (.cells #[.int .i64 d1, .int .i64 f1, .slice B1 ss1.length e1, .int .i64 d2, .int .i64 f2, .slice B2 ss2.length e2, .slice B3 st.length e3, .slice B4 P.length e4, .slice B5 pp.length e5, .int .i64 m] 41)).heap[w.heap.size + 1]? = some (.cells #[.int .i64 d1, .int .i64 f1, .slice B1 ss1.length e1, .int .i64 d2, .int .i64 f2, .slice B2 ss2.length e2, .slice B3 st.length e3, .slice B4 P.length e4, .slice B5 pp.length e5, .int .i64 m] 41 (0, 0)) := blk_new_at _ _ (by simp)
  generalize ((w.alloc (.cells #[.int .i64 d1, .int .i64 f1, .slice A1 ss1.length c1, .int .i64 d2, .int .i64 f2, .slice A2 ss2.length c2, .slice A3 st.length c3, .slice A4 P.length c4, .slice A5 pp.length c5, .int .i64 m] 41)).alloc (.cells #[.int .i64 d1, .int .i64 f1, .slice B1 ss1.length e1, .int .i64 d2, .int .i64 f2, .slice B2 ss2.length e2, .slice B3 st.length e3, .slice B4 P.length e4, .slice B5 pp.length e5, .int .i64 m] 41)) = w0 at *
  have hs0 := hb0.size
  refine (u_eqDraftW d1 f1 ss1 d2 f2 ss2 st A1 A2 A3 B1 B2 B3 c1 c2 c3 e1 e2 e3 _ _ _ _ w0 (x1.below hb0) (x2.below hb0) (unhide HO).d).mono ?_
  rintro e w1 ⟨rfl, hb1⟩
  have hka1 := blk_next hka hb1
  have hko1 := blk_next hko hb1
  have hbw1 : Below w.heap.size w w1 := hb0.trans (hb1.mono hs0)
  clear hka hko hb1 hb0 x1 x2
  obtain ⟨hx0, hx1, hx2, hx3, hx4, hx5, hx6, hx7, hx8, hx9, hxl⟩ := blk10 hka1
  obtain ⟨hy0, hy1, hy2, hy3, hy4, hy5, hy6, hy7, hy8, hy9, hyl⟩ := blk10 hko1
  go_wp2_with fail
  clear hx0 hx1 hx2 hx3 hx4 hx5 hx6 hx7 hx8 hx9 hxl
  clear hy0 hy1 hy2 hy3 hy4 hy5 hy6 hy7 hy8 hy9 hyl
  refine (u_eqItemS P A4 B4 c4 e4 L1 L2 _ _ _ _ w1 (y1.below hbw1) (y2.below hbw1) HP1.out HP2.out (unhide HO).i).mono ?_
  rintro e w2 ⟨rfl, hb2⟩
  have hka2 := blk_next hka1 hb2
  have hko2 := blk_next hko1 hb2
  have hbw2 : Below w.heap.size w w2 := hbw1.trans (hb2.mono hbw1.size)
  clear hka1 hko1 hb2 hbw1 y1 y2
  obtain ⟨hx0, hx1, hx2, hx3, hx4, hx5, hx6, hx7, hx8, hx9, hxl⟩ := blk10 hka2
  obtain ⟨hy0, hy1, hy2, hy3, hy4, hy5, hy6, hy7, hy8, hy9, hyl⟩ := blk10 hko2
  go_wp2_with fail
  clear hx0 hx1 hx2 hx3 hx4 hx5 hx6 hx7 hx8 hx9 hxl
  clear hy0 hy1 hy2 hy3 hy4 hy5 hy6 hy7 hy8 hy9 hyl
  refine (l_eqPaperS_same w2.heap.size A5 B5 pp.length c5 e5 pp w2 ((z1.below hbw2).rd (unhide HO).p) ((z2.below hbw2).rd (unhide HO).p) (Nat.le_refl _)).mono ?_
  rintro e w3 ⟨rfl, hb3⟩
  have hka3 := blk_next hka2 hb3
  have hko3 := blk_next hko2 hb3
  have hbw3 : Below w.heap.size w w3 := hbw2.trans (hb3.mono hbw2.size)
  clear hka2 hko2 hb3 hbw2 z1 z2
  obtain ⟨hx0, hx1, hx2, hx3, hx4, hx5, hx6, hx7, hx8, hx9, hxl⟩ := blk10 hka3
  obtain ⟨hy0, hy1, hy2, hy3, hy4, hy5, hy6, hy7, hy8, hy9, hyl⟩ := blk10 hko3
  go_wp2
  go_ret
  exact ⟨rfl, hbw3⟩
structure MkW (w : World) (lo hi : Nat) (A1 : Option Addr) (c1 n1 : Nat) (A2 : Option Addr) (c2 n2 : Nat) (A3 : Option Addr) (c3 n3 : Nat) (A4 : Option Addr) (c4 : Nat) (A5 : Option Addr) (c5 n5 : Nat) (P : List PItem) (k : Int) : Prop where
  all : ∃ l1 h1 l2 h2 l3 L, MkDW w l1 h1 A1 c1 n1 A2 c2 n2 A3 c3 n3 k ∧ plI L = P ∧ OwnItems w l2 h2 A4 P.length c4 (mksI (k + n1 + n2 + 7 * (n3 : Int)) L) ∧ w.ownsRow l3 118 3 (.slice A5 n5 c5) n5 (marksPaper (k + n1 + n2 + 7 * (n3 : Int) + (cntI P : Int)) n5)
section
variable {lo hi : Nat} {w w' : World} {A1 A2 A3 A4 A5 : Option Addr} {c1 c2 c3 c4 c5 n1 n2 n3 n5 : Nat} {P : List PItem} {k : Int}
theorem MkW.below (h : MkW w lo hi A1 c1 n1 A2 c2 n2 A3 c3 n3 A4 c4 A5 c5 n5 P k) (hb : Below w.heap.size w w') : MkW w' lo hi A1 c1 n1 A2 c2 n2 A3 c3 n3 A4 c4 A5 c5 n5 P k := by
  obtain ⟨l1, h1, l2, h2, l3, L, x, hp, y, z⟩ := h.all
  exact ⟨⟨l1, h1, l2, h2, l3, L, x.below hb, hp, y.below hb, own_below z hb⟩⟩
theorem MkW.alloc (h : MkW w lo hi A1 c1 n1 A2 c2 n2 A3 c3 n3 A4 c4 A5 c5 n5 P k) (o : Obj) : MkW (w.alloc o) lo hi A1 c1 n1 A2 c2 n2 A3 c3 n3 A4 c4 A5 c5 n5 P k := by
  obtain ⟨l1, h1, l2, h2, l3, L, x, hp, y, z⟩ := h.all
  exact ⟨⟨l1, h1, l2, h2, l3, L, x.alloc o, hp, y.alloc o, z.alloc _⟩⟩
end
theorem MkDW.within {w w' : World} {lo hi l h : Nat} {A1 A2 A3 : Option Addr} {c1 c2 c3 n1 n2 n3 : Nat} {k : Int} (q : MkDW w lo hi A1 c1 n1 A2 c2 n2 A3 c3 n3 k) (ht : ∀ c j, (Value.slice A3 n3 c).ownBlock = some j → j < hi) (hW : Within l h w w') (hd : hi ≤ l ∨ h ≤ lo) : MkDW w' lo hi A1 c1 n1 A2 c2 n2 A3 c3 n3 k :=
  ⟨⟨own_within q.m1.row hW (fun j hj => by have h1 := q.m1.top j hj; have h2 := (q.m1.row.lt j hj).1; omega), q.m1.top⟩, ⟨own_within q.m2.row hW (fun j hj => by have h1 := q.m2.top j hj; have h2 := (q.m2.row.lt j hj).1; omega), q.m2.top⟩, q.m3.elim fun c0 h3 => ⟨c0, own_within h3 hW (fun j hj => by have h1 := ht _ j hj; have h2 := (h3.lt j hj).1; omega)⟩⟩
theorem own_anyc {A : Option Addr} {n c c' : Nat} : (Value.slice A n c).ownBlock = (Value.slice A n c').ownBlock := by cases A <;> rfl
theorem Within.own3 {w w' : World} {base n lo hi : Nat} {A : Option Addr} {c : Nat} {xs : List Value} (h : w.ownsRow base 118 3 (.slice A n c) n xs) (ht : ∀ k, (Value.slice A n c).ownBlock = some k → k < hi) (hb : lo ≤ base) (hg : w.grownBy w' (Value.slice A n c).ownBlock) : Within lo hi w w' := Within.of_grown h (by decide) hg hb ht
set_option maxHeartbeats 1600000 in
theorem u_markWorkshop (d1 f1 : Int) (ss1 : List ByteArray) (d2 f2 : Int) (ss2 : List ByteArray) (st : List PStep) (P : List PItem) (pp : List PPaper) (m : Int) (A1 A2 A3 A4 A5 : Option Addr) (c1 c2 c3 c4 c5 lo hi : Nat) (k : Int) (w : World) (h : OwnW w lo hi A1 c1 A2 c2 A3 c3 A4 c4 A5 c5 ⟨d1, f1, ss1, d2, f2, ss2, st⟩ P pp) (hk0 : 0 ≤ k) (hk1 : k ≤ 1000000000000000) (hok : OkWork ⟨d1, f1, ss1, d2, f2, ss2, st⟩ P pp 16777216) :
    Calls Tryz.prog 26 #[.agg #[.int .i64 d1, .int .i64 f1, .slice A1 ss1.length c1, .int .i64 d2, .int .i64 f2, .slice A2 ss2.length c2, .slice A3 st.length c3, .slice A4 P.length c4, .slice A5 pp.length c5, .int .i64 m], .int .i64 k] w fun e w' =>
      e = .returned (.int .i64 (k + ss1.length + ss2.length + 7 * (st.length : Int) + (cntI P : Int) + 3 * (pp.length : Int))) ∧ MkW w' lo hi A1 c1 ss1.length A2 c2 ss2.length A3 c3 st.length A4 c4 A5 c5 pp.length P k ∧ Within lo hi w w' := by
  obtain ⟨l1, h1, l2, h2, l3, h3, L, hr, ha, x, hp, y, z⟩ := h.all
  have hn1 : ss1.length ≤ 16777216 := hok.d.l1
  have hn2 : ss2.length ≤ 16777216 := hok.d.l2
  have hn3 : st.length ≤ 16777216 := hok.d.l3
  have hn4 := cntI_le2 hok.i
  have hn5 := hok.p
  have HP := Lib.hid hp
  have HO := hide hok
  have HA := hide ha
  have HR := hide hr
  clear hp hok ha hr h
  go_enter Tryz.func26, Tryz.ntmps26
  go_wp2_with fail
  have ht3 : ∀ c j, (Value.slice A3 st.length c).ownBlock = some j → j < h1 := fun c j hj => x.o3.elim fun c0 h3 => h3.top j ((own_anyc (c' := c)).trans hj)
  have HT3 := hide ht3
  clear ht3
  have hka := blk_new w (.cells #[.int .i64 d1, .int .i64 f1, .slice A1 ss1.length c1, .int .i64 d2, .int .i64 f2, .slice A2 ss2.length c2, .slice A3 st.length c3, .slice A4 P.length c4, .slice A5 pp.length c5, .int .i64 m] 41)
  have hW0 : Within lo hi w (w.alloc (.cells #[.int .i64 d1, .int .i64 f1, .slice A1 ss1.length c1, .int .i64 d2, .int .i64 f2, .slice A2 ss2.length c2, .slice A3 st.length c3, .slice A4 P.length c4, .slice A5 pp.length c5, .int .i64 m] 41)) := Within.of_below ((Below.refl _ _).alloc (Nat.le_refl _) _)
  have x0 := x.alloc (.cells #[.int .i64 d1, .int .i64 f1, .slice A1 ss1.length c1, .int .i64 d2, .int .i64 f2, .slice A2 ss2.length c2, .slice A3 st.length c3, .slice A4 P.length c4, .slice A5 pp.length c5, .int .i64 m] 41)
  have y0 := y.alloc (.cells #[.int .i64 d1, .int .i64 f1, .slice A1 ss1.length c1, .int .i64 d2, .int .i64 f2, .slice A2 ss2.length c2, .slice A3 st.length c3, .slice A4 P.length c4, .slice A5 pp.length c5, .int .i64 m] 41)
  have z0 := z.alloc (.cells #[.int .i64 d1, .int .i64 f1, .slice A1 ss1.length c1, .int .i64 d2, .int .i64 f2, .slice A2 ss2.length c2, .slice A3 st.length c3, .slice A4 P.length c4, .slice A5 pp.length c5, .int .i64 m] 41)
  clear x y z
  generalize (w.alloc (.cells #[.int .i64 d1, .int .i64 f1, .slice A1 ss1.length c1, .int .i64 d2, .int .i64 f2, .slice A2 ss2.length c2, .slice A3 st.length c3, .slice A4 P.length c4, .slice A5 pp.length c5, .int .i64 m] 41)) = w0 at *
  refine (u_markDraftW d1 f1 ss1 d2 f2 ss2 st A1 A2 A3 c1 c2 c3 l1 h1 k w0 x0 hk0 (by omega) (unhide HO).d).mono ?_
  rintro e w1 ⟨rfl, m1, hW1⟩
  have hka1 := hW1.box hka
  have y1 := y0.within hW1 (by have := unhide HA; omega)
  have z1 := z0.within hW1 (by have := unhide HA; omega)
  have hX1 := hW0.trans (hW1.wide (unhide HR).1 (unhide HR).2.1)
  clear hka y0 z0 hW0 hW1 x0
  obtain ⟨hx0, hx1, hx2, hx3, hx4, hx5, hx6, hx7, hx8, hx9, hxl⟩ := blk10 hka1
  go_wp2_with fail
  clear hx0 hx1 hx2 hx3 hx4 hx5 hx6 hx7 hx8 hx9 hxl
  refine (u_markItemS P A4 c4 L l2 h2 (k + ss1.length + ss2.length + 7 * (st.length : Int)) w1 y1 HP.out (by omega) (by omega) (unhide HO).i).mono ?_
  rintro e w2 ⟨rfl, m2, hW2⟩
  have hka2 := hW2.box hka1
  have n1 := m1.within (unhide HT3) hW2 (by have := unhide HA; omega)
  have z2 := z1.within hW2 (by have := unhide HA; omega)
  have hX2 := hX1.trans (hW2.wide (unhide HR).2.2.1 (unhide HR).2.2.2.1)
  clear hka1 y1 z1 hX1 hW2 m1
  obtain ⟨hx0, hx1, hx2, hx3, hx4, hx5, hx6, hx7, hx8, hx9, hxl⟩ := blk10 hka2
  go_wp2_with fail
  clear hx0 hx1 hx2 hx3 hx4 hx5 hx6 hx7 hx8 hx9 hxl
  have z2r : w2.ownsRow l3 118 3 (.slice A5 pp.length c5) pp.length (pp.flatMap paperCells) := z2.row
  refine (l_markPaperS l3 A5 pp.length c5 _ (k + ss1.length + ss2.length + 7 * (st.length : Int) + (cntI P : Int)) w2 z2r (by omega) (by omega) hn5).mono ?_
  rintro e w3 ⟨rfl, m3, hg3⟩
  have hW3 : Within l3 h3 w2 w3 := Within.own3 z2.row z2.top (Nat.le_refl _) hg3
  have q1 := n1.within (unhide HT3) hW3 (by have := unhide HA; omega)
  have q2 := m2.within hW3 (by have := unhide HA; omega)
  have hX3 := hX2.trans (hW3.wide (unhide HR).2.2.2.2.1 (unhide HR).2.2.2.2.2)
  clear hX2 hW3 n1 m2 hg3
  go_wp2
  go_ret
  exact ⟨rfl, ⟨⟨l1, h1, l2, h2, l3, L, q1, HP.out, q2, m3⟩⟩, hX3⟩
set_option maxHeartbeats 1600000 in
theorem u_heldWorkshop (d1 f1 d2 f2 m : Int) (P : List PItem) (A1 A2 A3 A4 A5 : Option Addr) (c1 c2 c3 c4 c5 n1 n2 n3 n5 lo hi : Nat) (k : Int) (w : World) (h : MkW w lo hi A1 c1 n1 A2 c2 n2 A3 c3 n3 A4 c4 A5 c5 n5 P k) (hk0 : 0 ≤ k) (hk1 : k ≤ 1000000000000000) (hn1 : n1 ≤ 16777216) (hn2 : n2 ≤ 16777216) (hn3 : n3 ≤ 16777216) (hP : OkItems P 16777216) (hn5 : n5 ≤ 16777216) :
    Calls Tryz.prog 27 #[.agg #[.int .i64 d1, .int .i64 f1, .slice A1 n1 c1, .int .i64 d2, .int .i64 f2, .slice A2 n2 c2, .slice A3 n3 c3, .slice A4 P.length c4, .slice A5 n5 c5, .int .i64 m], .int .i64 k] w fun e w' =>
      e = .returned (.int .i64 (k + n1 + n2 + 7 * (n3 : Int) + (cntI P : Int) + 3 * (n5 : Int))) ∧ Below w.heap.size w w' := by
  obtain ⟨l1, h1, l2, h2, l3, L, x, hp, y, z⟩ := h.all
  have hn4 := cntI_le2 hP
  have HP := Lib.hid hp
  have HO := hide hP
  clear hp hP h
  go_enter Tryz.func27, Tryz.ntmps27
  go_wp2_with fail
  have hka := blk_new w (.cells #[.int .i64 d1, .int .i64 f1, .slice A1 n1 c1, .int .i64 d2, .int .i64 f2, .slice A2 n2 c2, .slice A3 n3 c3, .slice A4 P.length c4, .slice A5 n5 c5, .int .i64 m] 41)
  have hb0 : Below w.heap.size w (w.alloc (.cells #[.int .i64 d1, .int .i64 f1, .slice A1 n1 c1, .int .i64 d2, .int .i64 f2, .slice A2 n2 c2, .slice A3 n3 c3, .slice A4 P.length c4, .slice A5 n5 c5, .int .i64 m] 41)) := (Below.refl _ _).alloc (Nat.le_refl _) _
  have x0 := x.alloc (.cells #[.int .i64 d1, .int .i64 f1, .slice A1 n1 c1, .int .i64 d2, .int .i64 f2, .slice A2 n2 c2, .slice A3 n3 c3, .slice A4 P.length c4, .slice A5 n5 c5, .int .i64 m] 41)
  clear x
  generalize (w.alloc (.cells #[.int .i64 d1, .int .i64 f1, .slice A1 n1 c1, .int .i64 d2, .int .i64 f2, .slice A2 n2 c2, .slice A3 n3 c3, .slice A4 P.length c4, .slice A5 n5 c5, .int .i64 m] 41)) = w0 at *
  refine (u_heldDraftW d1 f1 d2 f2 A1 A2 A3 c1 c2 c3 n1 n2 n3 l1 h1 k w0 x0 hk0 (by omega) hn1 hn2 hn3).mono ?_
  rintro e w1 ⟨rfl, hb1⟩
  have hka1 := blk_next hka hb1
  have hbw1 : Below w.heap.size w w1 := hb0.trans (hb1.mono hb0.size)
  clear hka x0 hb0 hb1
  obtain ⟨hx0, hx1, hx2, hx3, hx4, hx5, hx6, hx7, hx8, hx9, hxl⟩ := blk10 hka1
  go_wp2_with fail
  clear hx0 hx1 hx2 hx3 hx4 hx5 hx6 hx7 hx8 hx9 hxl
  refine (u_heldItemS P A4 c4 L l2 h2 (k + n1 + n2 + 7 * (n3 : Int)) w1 (y.below hbw1) HP.out (by omega) (by omega) (unhide HO)).mono ?_
  rintro e w2 ⟨rfl, hb2⟩
  have hka2 := blk_next hka1 hb2
  have hbw2 : Below w.heap.size w w2 := hbw1.trans (hb2.mono hbw1.size)
  clear hka1 hbw1 hb2 y
  obtain ⟨hx0, hx1, hx2, hx3, hx4, hx5, hx6, hx7, hx8, hx9, hxl⟩ := blk10 hka2
  go_wp2_with fail
  clear hx0 hx1 hx2 hx3 hx4 hx5 hx6 hx7 hx8 hx9 hxl
  refine (l_heldPaperS w2.heap.size A5 n5 c5 (k + n1 + n2 + 7 * (n3 : Int) + (cntI P : Int)) w2 (Reads.of_own (own_below z hbw2)) (Nat.le_refl _) (by omega) (by omega) hn5).mono ?_
  rintro e w3 ⟨rfl, hb3⟩
  have hbw3 : Below w.heap.size w w3 := hbw2.trans (hb3.mono hbw2.size)
  clear hka2 hbw2 hb3 z
  go_wp2
  go_ret
  exact ⟨rfl, hbw3⟩
end Go.Proofs.YtdddglihomchfaaGreat
namespace Go.Proofs.YtdddglihomchfaaGreat
open Go.ChangeShapes Go.WideShapes Go.ChangeAt Go.RowKit
set_option linter.unusedVariables false
set_option linter.unusedSimpArgs false
set_option maxRecDepth 10000
def paperOk (K W H : Int) : Bool := inB K 0 9 && (inB W 40 400 && inB H 0 100000)
set_option maxHeartbeats 800000 in
theorem i_PaperOk (K W H : Int) (w : World) :
    Calls Tryz.prog 132 #[.agg #[.int .i64 K, .int .i64 W, .int .i64 H]] w fun e w' => e = .returned (.bool (paperOk K W H)) ∧ Below w.heap.size w w' := by
  cases h1 : inB K 0 9
  · have HR : Hid (paperOk K W H = false) := by unfold Hid paperOk; rw [h1]; rfl
    go_enter Tryz.func132, Tryz.ntmps132
    go_wp2_with (go_at_call 72; refine (i_within _ _ _ _).mono ?_; rintro e w' ⟨rfl, rfl⟩)
    go_ret
    exact ⟨ret_bool HR.out.symm, bel⟩
  · cases h2 : inB W 40 400
    · have HR : Hid (paperOk K W H = false) := by unfold Hid paperOk; rw [h1, h2]; rfl
      go_enter Tryz.func132, Tryz.ntmps132
      go_wp2_with (go_at_call 72; refine (i_within _ _ _ _).mono ?_; rintro e w' ⟨rfl, rfl⟩)
      go_ret
      exact ⟨ret_bool HR.out.symm, bel⟩
    · have HR : Hid (paperOk K W H = inB H 0 100000) := by unfold Hid paperOk; rw [h1, h2]; rfl
      go_enter Tryz.func132, Tryz.ntmps132
      go_wp2_with (go_at_call 72; refine (i_within _ _ _ _).mono ?_; rintro e w' ⟨rfl, rfl⟩)
      go_ret
      exact ⟨ret_bool HR.out.symm, bel⟩
set_option maxHeartbeats 800000 in
theorem s_PaperOk (K W H : Int) (w : World) :
    Calls Tryz.prog 122 #[.agg #[.int .i64 K, .int .i64 W, .int .i64 H]] w fun e w' => e = .returned (.bool (paperOk K W H)) ∧ Below w.heap.size w w' := by
  cases h1 : inB K 0 9
  · have HR : Hid (paperOk K W H = false) := by unfold Hid paperOk; rw [h1]; rfl
    go_enter Tryz.func122, Tryz.ntmps122
    go_wp2_with (go_at_call 65; refine (s_l01In _ _ _ _).mono ?_; rintro e w' ⟨rfl, rfl⟩)
    go_ret
    exact ⟨ret_bool HR.out.symm, bel⟩
  · cases h2 : inB W 40 400
    · have HR : Hid (paperOk K W H = false) := by unfold Hid paperOk; rw [h1, h2]; rfl
      go_enter Tryz.func122, Tryz.ntmps122
      go_wp2_with (go_at_call 65; refine (s_l01In _ _ _ _).mono ?_; rintro e w' ⟨rfl, rfl⟩)
      go_ret
      exact ⟨ret_bool HR.out.symm, bel⟩
    · have HR : Hid (paperOk K W H = inB H 0 100000) := by unfold Hid paperOk; rw [h1, h2]; rfl
      go_enter Tryz.func122, Tryz.ntmps122
      go_wp2_with (go_at_call 65; refine (s_l01In _ _ _ _).mono ?_; rintro e w' ⟨rfl, rfl⟩)
      go_ret
      exact ⟨ret_bool HR.out.symm, bel⟩
def papOk (l : List PPaper) : Bool := l.all fun p => paperOk p.k p.g p.s
def papGood (l : List PPaper) (j : Nat) : Prop := ∀ i, i < j → ∀ p, l[i]? = some p → paperOk p.k p.g p.s = true
theorem papGood_zero (l : List PPaper) : papGood l 0 := fun i hi => absurd hi (by omega)
theorem papGood_succ {l : List PPaper} {j : Nat} {p : PPaper} (h : papGood l j) (hx : l[j]? = some p) (hn : paperOk p.k p.g p.s = true) : papGood l (j + 1) := by
  intro i hi y hy
  rcases Nat.lt_or_ge i j with h1 | h1
  · exact h i h1 y hy
  · have : i = j := by omega
    subst this
    rw [hx] at hy; injection hy with hy; subst hy; exact hn
theorem papOk_no {l : List PPaper} {j : Nat} {p : PPaper} (hx : l[j]? = some p) (hn : paperOk p.k p.g p.s = false) : papOk l = false := by
  unfold papOk
  rw [List.all_eq_false]
  exact ⟨p, List.mem_of_getElem? hx, by rw [hn]; decide⟩
theorem papOk_yes {l : List PPaper} (h : papGood l l.length) : papOk l = true := by
  unfold papOk
  rw [List.all_eq_true]
  intro p hp
  obtain ⟨i, hi, rfl⟩ := List.getElem_of_mem hp
  exact h i hi _ (List.getElem?_eq_getElem hi)
set_option maxHeartbeats 400000 in
theorem c_arePapers1 (K W H : Int) (w : World) :
    Calls Tryz.prog 131 #[.agg #[.int .i64 K, .int .i64 W, .int .i64 H]] w fun e w' => e = .returned (.bool (!paperOk K W H)) ∧ Below w.heap.size w w' := by
  cases h : paperOk K W H
  · have HC := Lib.hid h
    clear h
    go_enter Tryz.func131, Tryz.ntmps131
    go_wp2_with (go_at_call 132; refine (i_PaperOk _ _ _ _).mono ?_; rw [HC.out]; rintro e w1 ⟨rfl, hb1⟩)
    go_ret
    exact ⟨rfl, bel⟩
  · have HC := Lib.hid h
    clear h
    go_enter Tryz.func131, Tryz.ntmps131
    go_wp2_with (go_at_call 132; refine (i_PaperOk _ _ _ _).mono ?_; rw [HC.out]; rintro e w1 ⟨rfl, hb1⟩)
    go_ret
    exact ⟨rfl, bel⟩
set_option maxHeartbeats 1600000 in
theorem idxPap (pp : List PPaper) (B : Nat) (A : Option Addr) (n c : Nat) (w : World) (hS : Papers w B A n pp) (hB : B ≤ w.heap.size) :
    Calls Tryz.prog 172 #[.slice A n c, .func (.func 131) #[] #[]] w fun e w' => (∃ x : Int, e = .returned (.int .i64 x) ∧ (decide (0 ≤ x)) = !papOk pp) ∧ Below w.heap.size w w' := by
  have hn := hS.nb
  have hl := hS.len
  have HL := Lib.hid hl
  clear hl
  go_enter Tryz.func172, Tryz.ntmps172
  go_wp2
  go_loopw [5, 8] (fun x i wr => ∃ j : Nat, j ≤ n ∧ i = .int .i64 j ∧ Hid (papGood pp j) ∧ Below w.heap.size w wr) (fun _ i _ => n - (intOf i).toNat)
  case atStart => exact ⟨0, Nat.zero_le _, rfl, papGood_zero _, Below.refl _ _⟩
  case round =>
    obtain ⟨j, hj, rfl, HN, hb⟩ := hrel
    have hzr := hb.size
    by_cases hltn : j < n
    · obtain ⟨hk1, ad, rfl, hab, hc0, hc1, hc2⟩ := (hS.below (hb.mono hB)).at_ hltn
      have HX := Lib.hid (show pp[j]? = some pp[j] from List.getElem?_eq_getElem hk1)
      generalize pp[j] = r at *
      have hcon := c_arePapers1 r.k r.g r.s wr
      cases hq : paperOk r.k r.g r.s
      · have HF : Hid ((decide (0 ≤ (j : Int))) = !papOk pp) := by unfold Hid; rw [papOk_no HX.out hq]; simp
        rw [hq] at hcon
        have HC := hide hcon
        clear hq hcon
        go_wp2_with (go_at_call 131; refine (unhide HC).mono ?_; rintro e w1 ⟨rfl, hb1⟩)
        go_ret
        exact ⟨⟨_, rfl, HF.out⟩, bel⟩
      · have HS := Lib.hid (papGood_succ HN.out HX.out hq)
        rw [hq] at hcon
        have HC := hide hcon
        clear hq hcon
        go_wp2_with (go_at_call 131; refine (unhide HC).mono ?_; rintro e w1 ⟨rfl, hb1⟩)
        go_roundw
        case rel => exact ⟨j + 1, by omega, by go_num, HS.out, bel⟩
        case measure => simp [intOf]; omega
    · have hjn : j = n := by omega
      have HF : Hid ((decide (0 ≤ (-1 : Int))) = !papOk pp) := by unfold Hid; rw [papOk_yes (by rw [HL.out, ← hjn]; exact HN.out)]; decide
      clear hjn
      go_wp2
      go_ret
      exact ⟨⟨_, rfl, HF.out⟩, hb⟩
set_option maxHeartbeats 800000 in
theorem i_arePapers (pp : List PPaper) (B : Nat) (A : Option Addr) (n c : Nat) (w : World) (hS : Papers w B A n pp) (hB : B ≤ w.heap.size) :
    Calls Tryz.prog 71 #[.slice A n c] w fun e w' => e = .returned (.bool (papOk pp)) ∧ Below w.heap.size w w' := by
  have hcon : ∀ (W : World), Below w.heap.size w W → Calls Tryz.prog 130 #[.slice A n c, .func (.func 131) #[] #[]] W fun e w' => e = .returned (.bool (!papOk pp)) ∧ Below W.heap.size W w' := by
    intro W hW
    have hix := idxPap pp B A n c W (hS.below (hW.mono hB)) (Nat.le_trans hB hW.size)
    have HIX := hide hix
    clear hix
    go_enter Tryz.func130, Tryz.ntmps130
    go_wp2_with (go_at_call 172; refine (unhide HIX).mono ?_; rintro e w1 ⟨⟨x, rfl, hx⟩, hb1⟩; have HX := Lib.hid hx; clear hx)
    go_ret
    exact ⟨ret_bool HX.out, hb1⟩
  have HC := hide hcon
  clear hcon
  cases hp : papOk pp
  · rw [hp] at HC
    clear hp
    go_enter Tryz.func71, Tryz.ntmps71
    go_wp2_with (go_at_call 130; refine (unhide HC _ (Below.refl _ _)).mono ?_; rintro e w1 ⟨rfl, hb1⟩)
    go_ret
    exact ⟨rfl, hb1⟩
  · rw [hp] at HC
    clear hp
    go_enter Tryz.func71, Tryz.ntmps71
    go_wp2_with (go_at_call 130; refine (unhide HC _ (Below.refl _ _)).mono ?_; rintro e w1 ⟨rfl, hb1⟩)
    go_ret
    exact ⟨rfl, hb1⟩
set_option maxHeartbeats 800000 in
theorem s_l23Ok (pp : List PPaper) (B : Nat) (A : Option Addr) (n c : Nat) (w : World) (hS : Papers w B A n pp) (hB : B ≤ w.heap.size) :
    Calls Tryz.prog 64 #[.slice A n c] w fun e w' => e = .returned (.bool (papOk pp)) ∧ Below w.heap.size w w' := by
  have hn := hS.nb
  have hl := hS.len
  have HL := Lib.hid hl
  clear hl
  go_enter Tryz.func64, Tryz.ntmps64
  go_wp2
  go_loopw [3] (fun i wr => ∃ j : Nat, j ≤ n ∧ i = .int .i64 j ∧ Hid (papGood pp j) ∧ Below w.heap.size w wr) (fun i _ => n - (intOf i).toNat)
  case atStart => exact ⟨0, Nat.zero_le _, rfl, papGood_zero _, Below.refl _ _⟩
  case round =>
    obtain ⟨j, hj, rfl, HN, hb⟩ := hrel
    have hzr := hb.size
    by_cases hltn : j < n
    · obtain ⟨hk1, ad, rfl, hab, hc0, hc1, hc2⟩ := (hS.below (hb.mono hB)).at_ hltn
      have HX := Lib.hid (show pp[j]? = some pp[j] from List.getElem?_eq_getElem hk1)
      generalize pp[j] = r at *
      have hcon := s_PaperOk r.k r.g r.s wr
      cases hq : paperOk r.k r.g r.s
      · have HF := Lib.hid (papOk_no HX.out hq)
        rw [hq] at hcon
        have HC := hide hcon
        clear hq hcon
        go_wp2_with (go_at_call 122; refine (unhide HC).mono ?_; rintro e w1 ⟨rfl, hb1⟩)
        go_ret
        exact ⟨ret_bool HF.out.symm, bel⟩
      · have HS := Lib.hid (papGood_succ HN.out HX.out hq)
        rw [hq] at hcon
        have HC := hide hcon
        clear hq hcon
        go_wp2_with (go_at_call 122; refine (unhide HC).mono ?_; rintro e w1 ⟨rfl, hb1⟩)
        go_roundw
        case rel => exact ⟨j + 1, by omega, by go_num, HS.out, bel⟩
        case measure => simp [intOf]; omega
    · have hjn : j = n := by omega
      have HF := Lib.hid (papOk_yes (l := pp) (by rw [HL.out, ← hjn]; exact HN.out))
      clear hjn
      go_wp2
      go_ret
      exact ⟨ret_bool HF.out.symm, hb⟩
theorem paperCells_one (l : List PPaper) : ∀ u ∈ l.flatMap paperCells, u.oneCell' = true := by
  intro u hu
  obtain ⟨s, _, h⟩ := List.mem_flatMap.1 hu
  simp [paperCells] at h
  rcases h with rfl | rfl | rfl <;> rfl
theorem fresh_papers {base n : Nat} {v : Value} {l : List PPaper} {w w' : World} (hl : l.length = n) (ho : w'.ownsRow base 118 3 v n (l.flatMap paperCells)) (hb : Below w.heap.size w w') : FreshPapers base l w (.returned v) w' := by
  subst hl
  obtain ⟨A, c, rfl⟩ := own_slice ho
  exact ⟨A, c, rfl, ho, hb⟩
set_option maxHeartbeats 800000 in
theorem clone_paper (B : Nat) (A : Option Addr) (n c : Nat) (l : List PPaper) (w : World) (hS : Papers w B A n l) (hB : B ≤ w.heap.size) :
    Calls Tryz.prog 146 #[.slice A n c] w (FreshPapers w.heap.size l w) := by
  have hn := hS.nb
  have hl := hS.len
  have hR := hS.rd
  rcases A with _ | ad
  · have hn0 : n = 0 := by
      rcases Nat.eq_zero_or_pos n with h0 | h0
      · exact h0
      · obtain ⟨_, ad, h, _⟩ := hS.at_ h0; cases h
    subst hn0
    have hs0 : l = [] := List.eq_nil_of_length_eq_zero hl
    subst hs0
    have hnil := fun W => Lib.run_eql_slice_nil (P := Tryz.prog) W 39
    clear hl
    go_enter Tryz.func146, Tryz.ntmps146
    go_wp2
    go_ret
    exact ⟨none, 0, rfl, World.ownsRow_nil w _ _ _, Below.refl _ _⟩
  · have hnil := fun W => Lib.run_eql_slice_nil (P := Tryz.prog) W 39
    obtain ⟨i0, hi0, hz0, hz1, hz2⟩ := info_parts info_paperCells
    have hown : (w.alloc (.cells #[] 118)).ownsRow w.heap.size 118 3 (.slice (some ⟨w.heap.size, 0, none⟩) 0 0) 0 [] := World.ownsRow_made w #[] 0 (Nat.le_refl _) (by unfold maxLen; omega) rfl
    have hR1 := hR.alloc hB (.cells #[] 118)
    have hone := paperCells_one l
    have HL := Lib.hid hl
    have HONE := hide hone
    clear hl hone
    go_enter Tryz.func146, Tryz.ntmps146
    go_wp2_with (at_builtin; refine wpList_append_N _ rfl (.tmp 5) (.tmp 6) _ rfl w.heap.size 118 i0 _ 3 24 Tryz.underlying39 hi0 hz0 hz1 hz2 rfl (by omega) (.slice (some ⟨w.heap.size, 0, none⟩) 0 0) 0 [] rfl hown B (some ad) n c (l.flatMap paperCells) rfl hR1 (unhide HONE) ?_ ?_ ?_ n _ (by omega) (List.nil_append _) ?_; (unfold maxLen; omega); omega; (simp); intro A1 c1 w1 hown1 hb1)
    have hfr := fresh_papers (l := l) (n := n) HL.out hown1 (((Below.refl w.heap.size w).alloc (Nat.le_refl _) _).trans hb1)
    have HFR := hide hfr
    clear hfr hown1
    go_ret
    exact (unhide HFR)
end Go.Proofs.YtdddglihomchfaaGreat
namespace Go.Proofs.YtdddglihomchfaaGreat
open Go.ChangeShapes Go.WideShapes Go.ChangeAt Go.RowKit
set_option linter.unusedVariables false
set_option maxRecDepth 10000
def plainStep (K F L T I : Int) (b a : ByteArray) : Bool :=
  if K = 1 ∨ K = 2 then (I == 0) && (b.toList.isEmpty && a.toList.isEmpty) else if K = 3 then (F == 0) && ((L == 0) && (T == 0)) else false
theorem plain_1 (F L T I : Int) (b a : ByteArray) : plainStep 1 F L T I b a = ((I == 0) && (b.toList.isEmpty && a.toList.isEmpty)) := by simp [plainStep]
theorem plain_2 (F L T I : Int) (b a : ByteArray) : plainStep 2 F L T I b a = ((I == 0) && (b.toList.isEmpty && a.toList.isEmpty)) := by simp [plainStep]
theorem plain_3 (F L T I : Int) (b a : ByteArray) : plainStep 3 F L T I b a = ((F == 0) && ((L == 0) && (T == 0))) := by simp [plainStep]
theorem plain_no {K F L T I : Int} {b a : ByteArray} (h1 : K ≠ 1) (h2 : K ≠ 2) (h3 : K ≠ 3) : plainStep K F L T I b a = false := by simp [plainStep, h1, h2, h3]
set_option maxHeartbeats 1600000 in
theorem i_isPlain (K F L T I : Int) (b a : ByteArray) (w : World) :
    Calls Tryz.prog 167 #[.agg #[.int .i64 K, .int .i64 F, .int .i64 L, .int .i64 T, .int .i64 I, .string b, .string a]] w fun e w' => e = .returned (.bool (plainStep K F L T I b a)) ∧ Below w.heap.size w w' := by
  by_cases h1 : K = 1
  · subst h1
    rw [plain_1]
    cases hI : (I == 0) <;> cases hb : b.toList.isEmpty <;> cases ha : a.toList.isEmpty <;>
    · go_enter Tryz.func167, Tryz.ntmps167
      go_wp2
      go_ret
      refine ⟨ret_bool ?_, bel⟩; (first | rfl | (simp_all; done) | trace_state)
  · by_cases h2 : K = 2
    · subst h2
      rw [plain_2]
      clear h1
      cases hI : (I == 0) <;> cases hb : b.toList.isEmpty <;> cases ha : a.toList.isEmpty <;>
      · go_enter Tryz.func167, Tryz.ntmps167
        go_wp2
        go_ret
        refine ⟨ret_bool ?_, bel⟩; (first | rfl | (simp_all; done) | trace_state)
    · by_cases h3 : K = 3
      · subst h3
        rw [plain_3]
        clear h1 h2
        cases hF : (F == 0) <;> cases hL : (L == 0) <;> cases hT : (T == 0) <;>
        · go_enter Tryz.func167, Tryz.ntmps167
          go_wp2
          go_ret
          refine ⟨ret_bool ?_, bel⟩; (first | rfl | (simp_all; done) | trace_state)
      · have HP := Lib.hid (plain_no (F := F) (L := L) (T := T) (I := I) (b := b) (a := a) h1 h2 h3)
        have e1 : (K == 1) = false := by simpa using h1
        have e2 : (K == 2) = false := by simpa using h2
        have e3 : (K == 3) = false := by simpa using h3
        clear h1 h2 h3
        go_enter Tryz.func167, Tryz.ntmps167
        go_wp2
        go_ret
        exact ⟨ret_bool HP.out.symm, bel⟩
set_option maxHeartbeats 1600000 in
theorem s_l37Plain (K F L T I : Int) (b a : ByteArray) (w : World) :
    Calls Tryz.prog 160 #[.agg #[.int .i64 K, .int .i64 F, .int .i64 L, .int .i64 T, .int .i64 I, .string b, .string a]] w fun e w' => e = .returned (.bool (plainStep K F L T I b a)) ∧ Below w.heap.size w w' := by
  by_cases h1 : K = 1
  · subst h1
    rw [plain_1]
    cases hI : (I == 0) <;> cases hb : b.toList.isEmpty <;> cases ha : a.toList.isEmpty <;>
    · go_enter Tryz.func160, Tryz.ntmps160
      go_wp2
      go_ret
      refine ⟨ret_bool ?_, bel⟩; (first | rfl | (simp_all; done) | trace_state)
  · by_cases h2 : K = 2
    · subst h2
      rw [plain_2]
      clear h1
      cases hI : (I == 0) <;> cases hb : b.toList.isEmpty <;> cases ha : a.toList.isEmpty <;>
      · go_enter Tryz.func160, Tryz.ntmps160
        go_wp2
        go_ret
        refine ⟨ret_bool ?_, bel⟩; (first | rfl | (simp_all; done) | trace_state)
    · by_cases h3 : K = 3
      · subst h3
        rw [plain_3]
        clear h1 h2
        cases hF : (F == 0) <;> cases hL : (L == 0) <;> cases hT : (T == 0) <;>
        · go_enter Tryz.func160, Tryz.ntmps160
          go_wp2
          go_ret
          refine ⟨ret_bool ?_, bel⟩; (first | rfl | (simp_all; done) | trace_state)
      · have HP := Lib.hid (plain_no (F := F) (L := L) (T := T) (I := I) (b := b) (a := a) h1 h2 h3)
        have e1 : (K == 1) = false := by simpa using h1
        have e2 : (K == 2) = false := by simpa using h2
        have e3 : (K == 3) = false := by simpa using h3
        clear h1 h2 h3
        go_enter Tryz.func160, Tryz.ntmps160
        go_wp2
        go_ret
        exact ⟨ret_bool HP.out.symm, bel⟩
end Go.Proofs.YtdddglihomchfaaGreat
namespace Go.Proofs.YtdddglihomchfaaGreat
open Go.ChangeShapes Go.WideShapes Go.ChangeAt Go.RowKit
set_option linter.unusedVariables false
set_option maxRecDepth 10000
def chr (s : ByteArray) (k : Int) : UInt8 := s.data.toList.getD k.toNat 0
def cornerAny (s : ByteArray) (k : Int) : Bool := inB k 1 ((s.size : Int) - 1) && (chr s (k - 1) != chr s k)
def cornerB (c : UInt8) (s : ByteArray) (k : Int) : Bool := (isStrip s.data.toList && cornerAny s k) && (chr s (k - 1) == c)
def swapL (l : List UInt8) (k : Nat) : List UInt8 := ((l.take (k - 1) ++ (l.drop k).take 1) ++ (l.drop (k - 1)).take 1) ++ l.drop (k + 1)
def swapB (s : ByteArray) (k : Int) : ByteArray := ⟨(swapL s.data.toList k.toNat).toArray⟩
theorem inB_iff' {x a b : Int} : inB x a b = true ↔ a ≤ x ∧ x ≤ b := by simp [inB]
theorem chr_get (s : ByteArray) (K : Nat) (h : K < s.size) : chr s (K : Int) = s[K] := by
  unfold chr
  rw [Int.toNat_natCast, List.getD_eq_getElem?_getD, List.getElem?_eq_getElem (by simpa using h)]
  rfl
theorem neq_bytes (a b : UInt8) : (!((a.toNat : Int) == (b.toNat : Int))) = (a != b) := by
  by_cases h : a = b
  · subst h; simp
  · have h3 : ((a.toNat : Int) == (b.toNat : Int)) = false := by rw [beq_eq_false_iff_ne]; intro h2; exact h (UInt8.toNat_inj.1 (by omega))
    have h4 : (a == b) = false := by rw [beq_eq_false_iff_ne]; exact h
    rw [h3, bne, h4]
theorem eq_bytes (a b : UInt8) : ((a.toNat : Int) == (b.toNat : Int)) = (a == b) := by
  have h := neq_bytes a b
  rw [bne] at h
  exact Bool.not_inj h
theorem quiet_ex {P : Program} {f : FuncId} {args : Array Value} {w : World} {n : Nat} {v : Value}
    (h : Calls P f args (w.drewN n) fun e w' => e = .returned v ∧ ∃ m, w' = (w.drewN n).drewN m) : Calls P f args (w.drewN n) fun e w'' => e = .returned v ∧ ∃ m, w'' = w.drewN m :=
  h.mono fun _ _ ⟨he, m, hm⟩ => ⟨he, n + m, by rw [hm, World.drewN_drewN]⟩
set_option maxHeartbeats 400000 in
theorem i_isCorner (s : ByteArray) (k : Int) (w : World) (hs : s.size ≤ 16777216) :
    Calls Tryz.prog 210 #[.string s, .int .i64 k] w fun e w' => e = .returned (.bool (cornerAny s k)) ∧ ∃ m, w' = w.drewN m := by
  have hw1 : IntKind.i64.wrap ((s.size : Int) - 1) = (s.size : Int) - 1 := by rw [IntWalk.i64_in _ (by omega)]
  have hq1 : ∀ (W : World) (v : Int), v = (s.size : Int) - 1 → Calls Tryz.prog 72 #[.int .i64 k, .int .i64 1, .int .i64 v] W fun e w' => e = .returned (.bool (inB k 1 ((s.size : Int) - 1))) ∧ W = w' := fun W v hv => by rw [hv]; exact i_within _ _ _ _
  have HW := hide hw1
  clear hw1
  cases hk : inB k 1 ((s.size : Int) - 1)
  · have HF : Hid (cornerAny s k = false) := by unfold Hid cornerAny; rw [hk]; rfl
    rw [hk] at hq1
    have HQ1 := hide hq1
    clear hq1
    go_enter Tryz.func210, Tryz.ntmps210
    go_wp2
    go_quiet (((first | (go_at_call 72; first | exact quiet_left (unhide HQ1 _ _ (by first | with_reducible rfl | exact unhide HW)) | exact quiet_add_left (unhide HQ1 _ _ (by first | with_reducible rfl | exact unhide HW))))))
    go_wp2
    go_ret
    exact ⟨ret_bool HF.out.symm, by first | exact ⟨0, rfl⟩ | exact ⟨_, rfl⟩ | exact ⟨_, World.drewN_drewN _ _ _⟩⟩
  · rw [hk] at hq1
    have HQ1 := hide hq1
    clear hq1
    have hb := inB_iff'.1 hk
    obtain ⟨L, rfl⟩ := Int.eq_ofNat_of_zero_le (show 0 ≤ k by omega)
    obtain ⟨K, hKL⟩ : ∃ K, L = K + 1 := ⟨L - 1, by omega⟩
    have hL : L < s.size := by omega
    have hK : K < s.size := by omega
    have e1 : ((L : Int) - 1) = (K : Int) := by omega
    have w1 : IntKind.i64.wrap ((L : Int) - 1) = (K : Int) := by rw [e1, IntWalk.i64_in _ (by omega)]
    have HF : Hid (cornerAny s L = (s[K] != s[L])) := by unfold Hid cornerAny; rw [hk, e1, chr_get s K hK, chr_get s L hL]; rfl
    have HK := hide hk
    have HKL := Lib.hid hKL
    clear hk hb hKL e1
    go_enter Tryz.func210, Tryz.ntmps210
    go_wp2
    go_quiet (((first | (go_at_call 72; first | exact quiet_left (unhide HQ1 _ _ (by first | with_reducible rfl | exact unhide HW)) | exact quiet_add_left (unhide HQ1 _ _ (by first | with_reducible rfl | exact unhide HW))))))
    go_wp2
    go_ret
    exact ⟨ret_bool (by rw [HF.out]; exact neq_bytes _ _), by first | exact ⟨0, rfl⟩ | exact ⟨_, rfl⟩ | exact ⟨_, World.drewN_drewN _ _ _⟩⟩
set_option maxHeartbeats 400000 in
theorem i_IsMountain (s : ByteArray) (k : Int) (w : World) (hs : s.size ≤ 16777216) :
    Calls Tryz.prog 205 #[.string s, .int .i64 k] w fun e w' => e = .returned (.bool (cornerB 102 s k)) ∧ ∃ m, w' = w.drewN m := by
  have hq1 : ∀ W : World, Calls Tryz.prog 181 #[.string s] W fun e w' => e = .returned (.bool (isStrip s.data.toList)) ∧ W = w' := fun W => i_IsStrip s W (by unfold maxLen; omega)
  have hq2 : ∀ W : World, Calls Tryz.prog 210 #[.string s, .int .i64 k] W fun e w' => e = .returned (.bool (cornerAny s k)) ∧ ∃ m, w' = W.drewN m := fun W => i_isCorner s k W hs
  cases hi : isStrip s.data.toList
  · have HF : Hid (cornerB 102 s k = false) := by unfold Hid cornerB; rw [hi]; rfl
    rw [hi] at hq1
    have HQ1 := hide hq1
    clear hq1 hq2
    go_enter Tryz.func205, Tryz.ntmps205
    go_wp2_with (first | (go_at_call 181; refine (unhide HQ1 _).mono ?_; rintro e w' ⟨rfl, rfl⟩) | (go_at_call 210; refine (unhide HQ2 _).mono ?_; rintro e w' ⟨rfl, m, rfl⟩))
    go_ret
    exact ⟨ret_bool HF.out.symm, by first | exact ⟨0, rfl⟩ | exact ⟨_, rfl⟩ | exact ⟨_, World.drewN_drewN _ _ _⟩⟩
  rw [hi] at hq1
  have HQ1 := hide hq1
  clear hq1
  cases hk : cornerAny s k
  · have HF : Hid (cornerB 102 s k = false) := by unfold Hid cornerB; rw [hk, hi]; rfl
    rw [hk] at hq2
    have HQ2 := hide hq2
    clear hq2
    go_enter Tryz.func205, Tryz.ntmps205
    go_wp2_with (first | (go_at_call 181; refine (unhide HQ1 _).mono ?_; rintro e w' ⟨rfl, rfl⟩) | (go_at_call 210; refine (unhide HQ2 _).mono ?_; rintro e w' ⟨rfl, m, rfl⟩))
    go_ret
    exact ⟨ret_bool HF.out.symm, by first | exact ⟨0, rfl⟩ | exact ⟨_, rfl⟩ | exact ⟨_, World.drewN_drewN _ _ _⟩⟩
  · rw [hk] at hq2
    have HQ2 := hide hq2
    clear hq2
    have hb := inB_iff'.1 (show inB k 1 ((s.size : Int) - 1) = true by unfold cornerAny at hk; exact (Bool.and_eq_true_iff.1 hk).1)
    obtain ⟨L, rfl⟩ := Int.eq_ofNat_of_zero_le (show 0 ≤ k by omega)
    obtain ⟨K, hKL⟩ : ∃ K, L = K + 1 := ⟨L - 1, by omega⟩
    have hL : L < s.size := by omega
    have hK : K < s.size := by omega
    have e1 : ((L : Int) - 1) = (K : Int) := by omega
    have w1 : IntKind.i64.wrap ((L : Int) - 1) = (K : Int) := by rw [e1, IntWalk.i64_in _ (by omega)]
    have HF : Hid (cornerB 102 s L = (s[K] == (102 : UInt8))) := by unfold Hid cornerB; rw [hk, hi, e1, chr_get s K hK]; rfl
    have HKL := Lib.hid hKL
    clear hk hb hKL e1
    go_enter Tryz.func205, Tryz.ntmps205
    go_wp2_with (first | (go_at_call 181; refine (unhide HQ1 _).mono ?_; rintro e w' ⟨rfl, rfl⟩) | (go_at_call 210; refine (unhide HQ2 _).mono ?_; rintro e w' ⟨rfl, m, rfl⟩))
    go_ret
    exact ⟨ret_bool (by rw [HF.out]; exact eq_bytes s[K] 102), by first | exact ⟨0, rfl⟩ | exact ⟨_, rfl⟩ | exact ⟨_, World.drewN_drewN _ _ _⟩⟩
set_option maxHeartbeats 400000 in
theorem i_IsValley (s : ByteArray) (k : Int) (w : World) (hs : s.size ≤ 16777216) :
    Calls Tryz.prog 209 #[.string s, .int .i64 k] w fun e w' => e = .returned (.bool (cornerB 100 s k)) ∧ ∃ m, w' = w.drewN m := by
  have hq1 : ∀ W : World, Calls Tryz.prog 181 #[.string s] W fun e w' => e = .returned (.bool (isStrip s.data.toList)) ∧ W = w' := fun W => i_IsStrip s W (by unfold maxLen; omega)
  have hq2 : ∀ W : World, Calls Tryz.prog 210 #[.string s, .int .i64 k] W fun e w' => e = .returned (.bool (cornerAny s k)) ∧ ∃ m, w' = W.drewN m := fun W => i_isCorner s k W hs
  cases hi : isStrip s.data.toList
  · have HF : Hid (cornerB 100 s k = false) := by unfold Hid cornerB; rw [hi]; rfl
    rw [hi] at hq1
    have HQ1 := hide hq1
    clear hq1 hq2
    go_enter Tryz.func209, Tryz.ntmps209
    go_wp2_with (first | (go_at_call 181; refine (unhide HQ1 _).mono ?_; rintro e w' ⟨rfl, rfl⟩) | (go_at_call 210; refine (unhide HQ2 _).mono ?_; rintro e w' ⟨rfl, m, rfl⟩))
    go_ret
    exact ⟨ret_bool HF.out.symm, by first | exact ⟨0, rfl⟩ | exact ⟨_, rfl⟩ | exact ⟨_, World.drewN_drewN _ _ _⟩⟩
  rw [hi] at hq1
  have HQ1 := hide hq1
  clear hq1
  cases hk : cornerAny s k
  · have HF : Hid (cornerB 100 s k = false) := by unfold Hid cornerB; rw [hk, hi]; rfl
    rw [hk] at hq2
    have HQ2 := hide hq2
    clear hq2
    go_enter Tryz.func209, Tryz.ntmps209
    go_wp2_with (first | (go_at_call 181; refine (unhide HQ1 _).mono ?_; rintro e w' ⟨rfl, rfl⟩) | (go_at_call 210; refine (unhide HQ2 _).mono ?_; rintro e w' ⟨rfl, m, rfl⟩))
    go_ret
    exact ⟨ret_bool HF.out.symm, by first | exact ⟨0, rfl⟩ | exact ⟨_, rfl⟩ | exact ⟨_, World.drewN_drewN _ _ _⟩⟩
  · rw [hk] at hq2
    have HQ2 := hide hq2
    clear hq2
    have hb := inB_iff'.1 (show inB k 1 ((s.size : Int) - 1) = true by unfold cornerAny at hk; exact (Bool.and_eq_true_iff.1 hk).1)
    obtain ⟨L, rfl⟩ := Int.eq_ofNat_of_zero_le (show 0 ≤ k by omega)
    obtain ⟨K, hKL⟩ : ∃ K, L = K + 1 := ⟨L - 1, by omega⟩
    have hL : L < s.size := by omega
    have hK : K < s.size := by omega
    have e1 : ((L : Int) - 1) = (K : Int) := by omega
    have w1 : IntKind.i64.wrap ((L : Int) - 1) = (K : Int) := by rw [e1, IntWalk.i64_in _ (by omega)]
    have HF : Hid (cornerB 100 s L = (s[K] == (100 : UInt8))) := by unfold Hid cornerB; rw [hk, hi, e1, chr_get s K hK]; rfl
    have HKL := Lib.hid hKL
    clear hk hb hKL e1
    go_enter Tryz.func209, Tryz.ntmps209
    go_wp2_with (first | (go_at_call 181; refine (unhide HQ1 _).mono ?_; rintro e w' ⟨rfl, rfl⟩) | (go_at_call 210; refine (unhide HQ2 _).mono ?_; rintro e w' ⟨rfl, m, rfl⟩))
    go_ret
    exact ⟨ret_bool (by rw [HF.out]; exact eq_bytes s[K] 100), by first | exact ⟨0, rfl⟩ | exact ⟨_, rfl⟩ | exact ⟨_, World.drewN_drewN _ _ _⟩⟩
set_option maxHeartbeats 800000 in
theorem s_l03Corner (s : ByteArray) (k : Int) (c : UInt8) (w : World) (hs : s.size ≤ 16777216) :
    Calls Tryz.prog 198 #[.string s, .int .i64 k, .int .u8 c.toNat] w fun e w' => e = .returned (.bool (cornerB c s k)) ∧ ∃ m, w' = w.drewN m := by
  have hw1 : IntKind.i64.wrap ((s.size : Int) - 1) = (s.size : Int) - 1 := by rw [IntWalk.i64_in _ (by omega)]
  have HW := hide hw1
  clear hw1
  have hq1 : ∀ W : World, Calls Tryz.prog 179 #[.string s] W fun e w' => e = .returned (.bool (isStrip s.data.toList)) ∧ W = w' := fun W => s_IsStrip s W (by unfold maxLen; omega)
  have hq2 : ∀ (W : World) (v : Int), v = (s.size : Int) - 1 → Calls Tryz.prog 65 #[.int .i64 k, .int .i64 1, .int .i64 v] W fun e w' => e = .returned (.bool (inB k 1 ((s.size : Int) - 1))) ∧ W = w' := fun W v hv => by rw [hv]; exact s_l01In _ _ _ _
  cases hi : isStrip s.data.toList
  · have HF : Hid (cornerB c s k = false) := by unfold Hid cornerB; rw [hi]; rfl
    rw [hi] at hq1
    have HQ1 := hide hq1
    clear hq1 hq2
    go_enter Tryz.func198, Tryz.ntmps198
    go_wp2
    go_quiet ((first | (go_at_call 179; first | exact quiet_left (unhide HQ1 _) | exact quiet_add_left (unhide HQ1 _))))
    go_wp2
    go_ret
    exact ⟨ret_bool HF.out.symm, by first | exact ⟨0, rfl⟩ | exact ⟨_, rfl⟩ | exact ⟨_, World.drewN_drewN _ _ _⟩⟩
  rw [hi] at hq1
  have HQ1 := hide hq1
  clear hq1
  cases hk : inB k 1 ((s.size : Int) - 1)
  · have HF : Hid (cornerB c s k = false) := by unfold Hid cornerB cornerAny; rw [hk, hi]; rfl
    rw [hk] at hq2
    have HQ2 := hide hq2
    clear hq2
    go_enter Tryz.func198, Tryz.ntmps198
    go_wp2
    go_quiet ((first | (go_at_call 179; first | exact quiet_left (unhide HQ1 _) | exact quiet_add_left (unhide HQ1 _)) | (go_at_call 65; first | exact quiet_left (unhide HQ2 _ _ (by first | with_reducible rfl | exact unhide HW)) | exact quiet_add_left (unhide HQ2 _ _ (by first | with_reducible rfl | exact unhide HW)))))
    go_wp2
    go_ret
    exact ⟨ret_bool HF.out.symm, by first | exact ⟨0, rfl⟩ | exact ⟨_, rfl⟩ | exact ⟨_, World.drewN_drewN _ _ _⟩⟩
  · rw [hk] at hq2
    have HQ2 := hide hq2
    clear hq2
    have hb := inB_iff'.1 hk
    obtain ⟨L, rfl⟩ := Int.eq_ofNat_of_zero_le (show 0 ≤ k by omega)
    obtain ⟨K, hKL⟩ : ∃ K, L = K + 1 := ⟨L - 1, by omega⟩
    have hL : L < s.size := by omega
    have hK : K < s.size := by omega
    have e1 : ((L : Int) - 1) = (K : Int) := by omega
    have w1 : IntKind.i64.wrap ((L : Int) - 1) = (K : Int) := by rw [e1, IntWalk.i64_in _ (by omega)]
    have HF : Hid (cornerB c s L = ((s[K] != s[L]) && (s[K] == c))) := by unfold Hid cornerB cornerAny; rw [hk, hi, e1, chr_get s K hK, chr_get s L hL]; rfl
    have hne := neq_bytes s[L] s[K]
    have heq := eq_bytes s[K] c
    have HKL := Lib.hid hKL
    clear hk hb hKL e1
    cases h1 : ((s[L].toNat : Int) == (s[K].toNat : Int)) <;>
    · rw [h1] at hne
      have HN := hide hne
      have HE := hide heq
      have hd : ((s[L].toNat : Int) != (s[K].toNat : Int)) = !((s[L].toNat : Int) == (s[K].toNat : Int)) := rfl
      rw [h1] at hd
      have hd2 := hd
      simp only [Bool.not_true, Bool.not_false] at hd2
      clear hne heq hd
      go_enter Tryz.func198, Tryz.ntmps198
      go_wp2
      go_quiet ((first | (go_at_call 179; first | exact quiet_left (unhide HQ1 _) | exact quiet_add_left (unhide HQ1 _)) | (go_at_call 65; first | exact quiet_left (unhide HQ2 _ _ (by first | with_reducible rfl | exact unhide HW)) | exact quiet_add_left (unhide HQ2 _ _ (by first | with_reducible rfl | exact unhide HW)))))
      go_wp2
      go_ret
      exact ⟨ret_bool (by rw [HF.out, ← unhide HE, bne_comm, ← unhide HN]; simp), by first | exact ⟨0, rfl⟩ | exact ⟨_, rfl⟩ | exact ⟨_, World.drewN_drewN _ _ _⟩⟩
set_option maxHeartbeats 400000 in
theorem s_IsMountain (s : ByteArray) (k : Int) (w : World) (hs : s.size ≤ 16777216) :
    Calls Tryz.prog 187 #[.string s, .int .i64 k] w fun e w' => e = .returned (.bool (cornerB 102 s k)) ∧ ∃ m, w' = w.drewN m := by
  go_enter Tryz.func187, Tryz.ntmps187
  go_wp2_with (go_at_call 198; refine (s_l03Corner s k 102 _ hs).mono ?_; rintro e w' ⟨rfl, m, rfl⟩)
  go_ret
  exact ⟨rfl, by first | exact ⟨0, rfl⟩ | exact ⟨_, rfl⟩ | exact ⟨_, World.drewN_drewN _ _ _⟩⟩
set_option maxHeartbeats 400000 in
theorem s_IsValley (s : ByteArray) (k : Int) (w : World) (hs : s.size ≤ 16777216) :
    Calls Tryz.prog 197 #[.string s, .int .i64 k] w fun e w' => e = .returned (.bool (cornerB 100 s k)) ∧ ∃ m, w' = w.drewN m := by
  go_enter Tryz.func197, Tryz.ntmps197
  go_wp2_with (go_at_call 198; refine (s_l03Corner s k 100 _ hs).mono ?_; rintro e w' ⟨rfl, m, rfl⟩)
  go_ret
  exact ⟨rfl, by first | exact ⟨0, rfl⟩ | exact ⟨_, rfl⟩ | exact ⟨_, World.drewN_drewN _ _ _⟩⟩
set_option maxHeartbeats 400000 in
theorem i_CanRaise (s : ByteArray) (k : Int) (w : World) (hs : s.size ≤ 16777216) :
    Calls Tryz.prog 203 #[.string s, .int .i64 k] w fun e w' => e = .returned (.bool (cornerB 100 s k)) ∧ ∃ m, w' = w.drewN m := by
  go_enter Tryz.func203, Tryz.ntmps203
  go_wp2_with (go_at_call 209; refine (i_IsValley s k _ hs).mono ?_; rintro e w' ⟨rfl, m, rfl⟩)
  go_ret
  exact ⟨rfl, by first | exact ⟨0, rfl⟩ | exact ⟨_, rfl⟩ | exact ⟨_, World.drewN_drewN _ _ _⟩⟩
end Go.Proofs.YtdddglihomchfaaGreat
namespace Go.Proofs.YtdddglihomchfaaGreat
open Go.ChangeShapes Go.WideShapes Go.ChangeAt Go.RowKit
set_option linter.unusedVariables false
set_option maxRecDepth 10000
theorem swap_parts (s : ByteArray) (L K : Nat) (hKL : L = K + 1) (hL : L < s.size) :
    s.extract 0 K ++ s.extract L (L + 1) ++ s.extract K L ++ s.extract (L + 1) s.size = swapB s (L : Int) := by
  apply ba_ext
  subst hKL
  unfold swapB swapL
  have h : List.take (s.size - (K + 1 + 1)) (List.drop (K + 1 + 1) s.data.toList) = List.drop (K + 1 + 1) s.data.toList := List.take_of_length_le (by rw [List.length_drop]; simp)
  simp only [Int.toNat_natCast, ByteArray.data_append, Array.toList_append, ByteArray.data_extract, Array.toList_extract, List.extract_eq_take_drop]
  simp [h]
set_option maxHeartbeats 400000 in
theorem i_turnedAt (s : ByteArray) (L K : Nat) (w : World) (hs : s.size ≤ 16777216) (hKL : L = K + 1) (hL : L < s.size) :
    Calls Tryz.prog 204 #[.string s, .int .i64 L] w fun e w' => e = .returned (.string (swapB s (L : Int))) ∧ ∃ m, w' = w.drewN m := by
  have HP := Lib.hid (swap_parts s L K hKL hL)
  have hK : K < s.size := by omega
  have w1 : IntKind.i64.wrap ((L : Int) - 1) = (K : Int) := by rw [show (L : Int) - 1 = (K : Int) by omega, IntWalk.i64_in _ (by omega)]
  have w2 : IntKind.i64.wrap ((L : Int) + 1) = (L : Int) + 1 := by rw [IntWalk.i64_in _ (by omega)]
  have hle : K ≤ L := by omega
  have hle2 : L + 1 ≤ s.size := hL
  have HKL := Lib.hid hKL
  clear hKL
  go_enter Tryz.func204, Tryz.ntmps204
  go_wp2
  go_quiet (fail)
  go_wp2
  go_ret
  exact ⟨ret_str (by rw [← HP.out]), by first | exact ⟨0, rfl⟩ | exact ⟨_, rfl⟩ | exact ⟨_, World.drewN_drewN _ _ _⟩⟩
set_option maxHeartbeats 400000 in
theorem s_l10Swap (s : ByteArray) (L K : Nat) (w : World) (hs : s.size ≤ 16777216) (hKL : L = K + 1) (hL : L < s.size) :
    Calls Tryz.prog 185 #[.string s, .int .i64 L] w fun e w' => e = .returned (.string (swapB s (L : Int))) ∧ ∃ m, w' = w.drewN m := by
  have HP := Lib.hid (swap_parts s L K hKL hL)
  have hK : K < s.size := by omega
  have w1 : IntKind.i64.wrap ((L : Int) - 1) = (K : Int) := by rw [show (L : Int) - 1 = (K : Int) by omega, IntWalk.i64_in _ (by omega)]
  have w2 : IntKind.i64.wrap ((L : Int) + 1) = (L : Int) + 1 := by rw [IntWalk.i64_in _ (by omega)]
  have hle : K ≤ L := by omega
  have hle2 : L + 1 ≤ s.size := hL
  have HKL := Lib.hid hKL
  clear hKL
  go_enter Tryz.func185, Tryz.ntmps185
  go_wp2
  go_quiet (fail)
  go_wp2
  go_ret
  exact ⟨ret_str (by rw [← HP.out]), by first | exact ⟨0, rfl⟩ | exact ⟨_, rfl⟩ | exact ⟨_, World.drewN_drewN _ _ _⟩⟩
theorem cornerB_pos {c : UInt8} {s : ByteArray} {k : Int} (h : cornerB c s k = true) : ∃ L K : Nat, k = (L : Int) ∧ L = K + 1 ∧ L < s.size := by
  unfold cornerB cornerAny at h
  simp only [Bool.and_eq_true] at h
  have hb := inB_iff'.1 h.1.2.1
  exact ⟨k.toNat, k.toNat - 1, by omega, by omega, by omega⟩
def turnRes (c : UInt8) (s : ByteArray) (k : Int) : ByteArray := if cornerB c s k = true then swapB s k else s
set_option maxHeartbeats 400000 in
theorem i_RaiseAt (s : ByteArray) (k : Int) (w : World) (hs : s.size ≤ 16777216) :
    Calls Tryz.prog 191 #[.string s, .int .i64 k] w fun e w' => e = .returned (.tuple #[.string (turnRes 100 s k), .bool (cornerB 100 s k)]) ∧ ∃ m, w' = w.drewN m := by
  have hq : ∀ W : World, Calls Tryz.prog 203 #[.string s, .int .i64 k] W fun e w' => e = .returned (.bool (cornerB 100 s k)) ∧ ∃ m, w' = W.drewN m := fun W => i_CanRaise s k W hs
  cases hc : cornerB 100 s k
  · have HR : Hid (turnRes 100 s k = s) := by unfold Hid turnRes; rw [if_neg (by rw [hc]; decide)]
    rw [hc] at hq
    have HQ := hide hq
    clear hq hc
    go_enter Tryz.func191, Tryz.ntmps191
    go_wp2_with (go_at_call 203; refine (unhide HQ _).mono ?_; rintro e w' ⟨rfl, m, rfl⟩)
    refine bodyPost_ret (v := .tuple #[.string s, .bool false]) (by simp [results, Tryz.results191, go_sem, *]) rfl ?_
    rw [HR.out]
    exact ⟨rfl, by first | exact ⟨0, rfl⟩ | exact ⟨_, rfl⟩ | exact ⟨_, World.drewN_drewN _ _ _⟩⟩
  · have HR : Hid (turnRes 100 s k = swapB s k) := by unfold Hid turnRes; rw [if_pos hc]
    rw [hc] at hq
    have HQ := hide hq
    obtain ⟨L, K, rfl, hKL, hL⟩ := cornerB_pos hc
    clear hq hc
    have HKL := hide hKL
    clear hKL
    go_enter Tryz.func191, Tryz.ntmps191
    go_wp2_with (first | (go_at_call 203; refine (unhide HQ _).mono ?_; rintro e w' ⟨rfl, m, rfl⟩) | (go_at_call 204; refine (i_turnedAt s L K _ hs (unhide HKL) hL).mono ?_; rintro e w' ⟨rfl, m, rfl⟩))
    refine bodyPost_ret (v := .tuple #[.string (swapB s L), .bool true]) (by simp [results, Tryz.results191, go_sem, *]) rfl ?_
    rw [HR.out]
    exact ⟨rfl, by first | exact ⟨0, rfl⟩ | exact ⟨_, rfl⟩ | exact ⟨_, World.drewN_drewN _ _ _⟩⟩
set_option maxHeartbeats 400000 in
theorem i_LowerAt (s : ByteArray) (k : Int) (w : World) (hs : s.size ≤ 16777216) :
    Calls Tryz.prog 192 #[.string s, .int .i64 k] w fun e w' => e = .returned (.tuple #[.string (turnRes 102 s k), .bool (cornerB 102 s k)]) ∧ ∃ m, w' = w.drewN m := by
  have hq : ∀ W : World, Calls Tryz.prog 205 #[.string s, .int .i64 k] W fun e w' => e = .returned (.bool (cornerB 102 s k)) ∧ ∃ m, w' = W.drewN m := fun W => i_IsMountain s k W hs
  cases hc : cornerB 102 s k
  · have HR : Hid (turnRes 102 s k = s) := by unfold Hid turnRes; rw [if_neg (by rw [hc]; decide)]
    rw [hc] at hq
    have HQ := hide hq
    clear hq hc
    go_enter Tryz.func192, Tryz.ntmps192
    go_wp2_with (go_at_call 205; refine (unhide HQ _).mono ?_; rintro e w' ⟨rfl, m, rfl⟩)
    refine bodyPost_ret (v := .tuple #[.string s, .bool false]) (by simp [results, Tryz.results192, go_sem, *]) rfl ?_
    rw [HR.out]
    exact ⟨rfl, by first | exact ⟨0, rfl⟩ | exact ⟨_, rfl⟩ | exact ⟨_, World.drewN_drewN _ _ _⟩⟩
  · have HR : Hid (turnRes 102 s k = swapB s k) := by unfold Hid turnRes; rw [if_pos hc]
    rw [hc] at hq
    have HQ := hide hq
    obtain ⟨L, K, rfl, hKL, hL⟩ := cornerB_pos hc
    clear hq hc
    have HKL := hide hKL
    clear hKL
    go_enter Tryz.func192, Tryz.ntmps192
    go_wp2_with (first | (go_at_call 205; refine (unhide HQ _).mono ?_; rintro e w' ⟨rfl, m, rfl⟩) | (go_at_call 204; refine (i_turnedAt s L K _ hs (unhide HKL) hL).mono ?_; rintro e w' ⟨rfl, m, rfl⟩))
    refine bodyPost_ret (v := .tuple #[.string (swapB s L), .bool true]) (by simp [results, Tryz.results192, go_sem, *]) rfl ?_
    rw [HR.out]
    exact ⟨rfl, by first | exact ⟨0, rfl⟩ | exact ⟨_, rfl⟩ | exact ⟨_, World.drewN_drewN _ _ _⟩⟩
end Go.Proofs.YtdddglihomchfaaGreat
namespace Go.Proofs.YtdddglihomchfaaGreat
open Go.ChangeShapes Go.WideShapes Go.ChangeAt Go.RowKit
set_option linter.unusedVariables false
set_option maxRecDepth 10000
def boxOk (d f : Int) (ss : List ByteArray) (n : Nat) (F L : Int) : Bool := (cardOk d f ss && inB F 0 L) && decide (L < (n : Int))
theorem boxOk_spec (d f : Int) (ss : List ByteArray) (n : Nat) (F L : Int) : boxOk d f ss n F L = ((cardOk d f ss && inB L 0 ((n : Int) - 1)) && inB F 0 L) := by
  unfold boxOk
  cases cardOk d f ss
  · rfl
  · have h : (inB F 0 L && decide (L < (n : Int))) = (inB L 0 ((n : Int) - 1) && inB F 0 L) := by
      rw [Bool.eq_iff_iff]
      simp only [Bool.and_eq_true, inB_iff, decide_eq_true_eq]
      omega
    simpa using h
def flips (at_ : Int) (ss : List ByteArray) (F j : Nat) : List ByteArray := ss.mapIdx fun i s => if F ≤ i ∧ i < F + j then swapB s at_ else s
def allC (c : UInt8) (at_ : Int) (ss : List ByteArray) (F j : Nat) : Bool := ((ss.drop F).take j).all fun s => cornerB c s at_
theorem flips_len (at_ : Int) (ss : List ByteArray) (F j : Nat) : (flips at_ ss F j).length = ss.length := by simp [flips]
theorem flips_zero (at_ : Int) (ss : List ByteArray) (F : Nat) : flips at_ ss F 0 = ss := by
  apply List.ext_getElem (by simp [flips])
  intro i h1 h2
  simp [flips]; intro h3 h4; omega
theorem flips_step (at_ : Int) (ss : List ByteArray) (F j : Nat) (h : F + j < ss.length) : (flips at_ ss F j).set (F + j) (swapB ss[F + j] at_) = flips at_ ss F (j + 1) := by
  apply List.ext_getElem (by simp [flips])
  intro i h1 h2
  rw [List.getElem_set]
  simp only [flips, List.getElem_mapIdx]
  by_cases hi : F + j = i
  · subst hi
    simp
  · rw [if_neg hi]
    by_cases h3 : F ≤ i ∧ i < F + j
    · rw [if_pos h3, if_pos (by omega)]
    · rw [if_neg h3, if_neg (by omega)]
theorem allC_zero (c : UInt8) (at_ : Int) (ss : List ByteArray) (F : Nat) : allC c at_ ss F 0 = true := by simp [allC]
theorem allC_step (c : UInt8) (at_ : Int) (ss : List ByteArray) (F j : Nat) (h : F + j < ss.length) : allC c at_ ss F (j + 1) = (allC c at_ ss F j && cornerB c ss[F + j] at_) := by
  unfold allC
  rw [List.take_succ_eq_append_getElem (by rw [List.length_drop]; omega), List.all_append]
  simp
theorem allC_stop {c : UInt8} {at_ : Int} {ss : List ByteArray} {F j m : Nat} (h : F + j < ss.length) (hj : j < m) (hc : cornerB c ss[F + j] at_ = false) : allC c at_ ss F m = false := by
  unfold allC
  rw [List.all_eq_false]
  refine ⟨ss[F + j], ?_, by simp [hc]⟩
  rw [List.mem_take_iff_getElem]
  exact ⟨j, by rw [List.length_drop]; omega, by simp⟩
theorem swapB_size {s : ByteArray} {at_ : Int} (h : s.size ≤ 16777216) {c : UInt8} (hc : cornerB c s at_ = true) : (swapB s at_).size = s.size := by
  obtain ⟨L, K, rfl, hKL, hL⟩ := cornerB_pos hc
  subst hKL
  have h1 : s.data.toList.length = s.size := by simp
  show (swapL s.data.toList _).toArray.size = s.size
  simp only [List.size_toArray, swapL, List.length_append, List.length_take, List.length_drop, Int.toNat_natCast, h1]
  omega
def boxRes (c : UInt8) (d f : Int) (ss : List ByteArray) (F L at_ : Int) : List ByteArray × Bool :=
  if boxOk d f ss ss.length F L = true ∧ allC c at_ ss F.toNat (L.toNat + 1 - F.toNat) = true then (flips at_ ss F.toNat (L.toNat + 1 - F.toNat), true) else (ss, false)
set_option maxHeartbeats 400000 in
theorem i_hasBox (d f : Int) (B : Nat) (A : Option Addr) (n c : Nat) (ss : List ByteArray) (F L T : Int) (w : World) (hS : Strs w B A n ss) (hB : B ≤ w.heap.size) :
    Calls Tryz.prog 202 #[.agg #[.int .i64 d, .int .i64 f, .slice A n c], .agg #[.int .i64 F, .int .i64 L, .int .i64 T]] w fun e w' => e = .returned (.bool (boxOk d f ss n F L)) ∧ Below w.heap.size w w' := by
  have hn := hS.nb
  have hS2 := (hS.alloc hB (.cells #[.int .i64 d, .int .i64 f, .slice A n c] 34)).alloc (by simp; omega) (.cells #[.int .i64 F, .int .i64 L, .int .i64 T] 63)
  unfold boxOk
  cases hc : cardOk d f ss <;> cases hk : inB F 0 L <;>
  · go_enter Tryz.func202, Tryz.ntmps202
    go_wp2_with (first | (go_at_call 126; refine (i_CardOk _ _ _ _ _ ss _ (hS2.more (by simp; omega))).mono ?_; rintro e w1 ⟨rfl, hb1⟩; obtain ⟨hcb, hfb⟩ := bcell hb1; have hz_w1_0 : w.heap.size < w1.heap.size := (by have hzz := hb1.size; (try simp at hzz); omega); have hy_w1_0 := Nat.le_of_lt hz_w1_0; have hz_w1_1 : w.heap.size + 1 < w1.heap.size := (by have hzz := hb1.size; (try simp at hzz); omega); have hy_w1_1 := Nat.le_of_lt hz_w1_1) | (go_at_call 72; refine (i_within _ _ _ _).mono ?_; rintro e w' ⟨rfl, rfl⟩))
    go_ret
    exact ⟨by simp, bel⟩
set_option maxHeartbeats 400000 in
theorem s_l11Range (d f : Int) (B : Nat) (A : Option Addr) (n c : Nat) (ss : List ByteArray) (F L T : Int) (w : World) (hS : Strs w B A n ss) (hB : B ≤ w.heap.size) :
    Calls Tryz.prog 186 #[.agg #[.int .i64 d, .int .i64 f, .slice A n c], .agg #[.int .i64 F, .int .i64 L, .int .i64 T]] w fun e w' => e = .returned (.bool (boxOk d f ss n F L)) ∧ Below w.heap.size w w' := by
  have hn := hS.nb
  have hS2 := (hS.alloc hB (.cells #[.int .i64 d, .int .i64 f, .slice A n c] 34)).alloc (by simp; omega) (.cells #[.int .i64 F, .int .i64 L, .int .i64 T] 63)
  rw [boxOk_spec]
  cases hc : cardOk d f ss <;> cases hk : inB L 0 ((n : Int) - 1) <;>
  · go_enter Tryz.func186, Tryz.ntmps186
    go_wp2_with (first | (go_at_call 118; refine (s_CardOk _ _ _ _ _ ss _ (hS2.more (by simp; omega))).mono ?_; rintro e w1 ⟨rfl, hb1⟩; obtain ⟨hcb, hfb⟩ := bcell hb1; have hz_w1_0 : w.heap.size < w1.heap.size := (by have hzz := hb1.size; (try simp at hzz); omega); have hy_w1_0 := Nat.le_of_lt hz_w1_0; have hz_w1_1 : w.heap.size + 1 < w1.heap.size := (by have hzz := hb1.size; (try simp at hzz); omega); have hy_w1_1 := Nat.le_of_lt hz_w1_1) | (go_at_call 65; refine (s_l01In _ _ _ _).mono ?_; rintro e w' ⟨rfl, rfl⟩))
    go_ret
    exact ⟨by simp, bel⟩
end Go.Proofs.YtdddglihomchfaaGreat
