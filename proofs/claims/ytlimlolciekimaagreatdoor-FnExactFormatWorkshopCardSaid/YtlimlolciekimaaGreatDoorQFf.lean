/- Contracts of the program's and the reference's functions (Draft1, UDraft, UDraftW, Draft3, Draft2, Undo1, Draft4, Draft5, Draft6, Draft7). -/
import Derived.Deep.DeepCutAuto
import Derived.Deep.RegionHeld3
import Derived.Deep.RegionLaw
import Derived.Test.YtlimlolciekimaaGreatDoorRows
import Derived.Test.YtlimlolciekimaaGreatDoorQFb
import Derived.Test.YtlimlolciekimaaGreatDoorQFa
import Derived.Test.YtlimlolciekimaaGreatDoorQFe
namespace Go.Proofs.YtlimlolciekimaaGreatDoor
open Go.ChangeShapes Go.WideShapes Go.ChangeAt Go.RowKit
set_option linter.unusedVariables false
set_option maxRecDepth 10000
def szSteps : List PStep → Int → Int
  | [], left => left
  | s :: l, left => if szStep s.b s.a left < 0 then -1 else szSteps l (szStep s.b s.a left)
def szStepL (l : List PStep) (left : Int) : Int := if left - l.length < 0 then -1 else szSteps l (left - l.length)
theorem szSteps_drop {l : List PStep} {j : Nat} (h : j < l.length) (q : Int) : szSteps (l.drop j) q = if szStep l[j].b l[j].a q < 0 then -1 else szSteps (l.drop (j + 1)) (szStep l[j].b l[j].a q) := by
  rw [List.drop_eq_getElem_cons h]; rfl
theorem szStep_ge (b a : ByteArray) (l : Int) : -1 ≤ szStep b a l := by unfold szStep; split <;> (first | omega | (split <;> omega))
theorem szSteps_ub (l : List PStep) : ∀ (q : Int), q ≤ 1048576 → szSteps l q ≤ 1048576 := by
  induction l with
  | nil => intro q h; exact h
  | cons s l ih => intro q h; simp only [szSteps]; split <;> (first | omega | exact ih _ (sz_ub_step _ _ _ h))
theorem szStepL_ub (l : List PStep) (q : Int) (h : q ≤ 1048576) : szStepL l q ≤ 1048576 := by
  unfold szStepL; split <;> (first | omega | exact szSteps_ub l _ (by omega))
theorem szSteps_mem (l : List PStep) : ∀ (q : Int), q ≤ 1048576 → 0 ≤ szSteps l q → ∀ s ∈ l, s.b.size ≤ 1048576 ∧ s.a.size ≤ 1048576 := by
  induction l with
  | nil => intro q _ _ s hs; cases hs
  | cons s l ih =>
    intro q hq h x hx
    simp only [szSteps] at h
    split at h
    · omega
    · rename_i h2
      rcases List.mem_cons.1 hx with rfl | hx
      · exact step_of_sz hq (by omega)
      · exact ih _ (sz_ub_step _ _ _ hq) h x hx
theorem steps_of_szl {W : World} {A : Option Addr} {n : Nat} {l : List PStep} {q : Int} (hR : Reads W W.heap.size 7 A n (l.flatMap stepCells)) (hq : q ≤ 1048576) (hz : 0 ≤ szStepL l q) : Steps W W.heap.size A n l ∧ n ≤ 1048576 := by
  have hl : l.length = n := by have := hR.1; rw [flat_len stepCells_len] at this; omega
  unfold szStepL at hz
  split at hz
  · omega
  · have hm := szSteps_mem l _ (by omega) hz
    exact ⟨⟨hR, by omega, fun s hs => by have := hm s hs; omega⟩, by omega⟩
set_option maxHeartbeats 1600000 in
theorem l_szStepS (B : Nat) (A : Option Addr) (n c : Nat) (l : List PStep) (left : Int) (w : World) (hR : Reads w B 7 A n (l.flatMap stepCells)) (hB : B ≤ w.heap.size) (hn : n ≤ 9223372036854775807) (hs : ∀ s ∈ l, s.b.size ≤ 9223372036854775807 ∧ s.a.size ≤ 9223372036854775807) (h0 : -1 ≤ left) (h1 : left ≤ 1048576) :
    Calls Tryz.prog 90 #[.slice A n c, .int .i64 left] w fun e w' => e = .returned (.int .i64 (szStepL l left)) ∧ Below w.heap.size w w' := by
  have hl : l.length = n := by have := hR.1; rw [flat_len stepCells_len] at this; omega
  by_cases hlt : left - n < 0
  · have HF : Hid (szStepL l left = -1) := by unfold Hid szStepL; rw [if_pos (by omega)]
    clear hl
    go_enter Tryz.func90, Tryz.ntmps90
    go_wp2
    go_ret
    exact ⟨ret_int HF.out.symm, bel⟩
  · have HF : Hid (szStepL l left = szSteps l (left - n)) := by unfold Hid szStepL; rw [if_neg (by omega), hl]
    have HL := Lib.hid hl
    have HS := hide hs
    clear hl hs
    go_enter Tryz.func90, Tryz.ntmps90
    go_wp2
    go_loopw [1, 5] (fun q i wr => ∃ (j : Nat) (x : Int), j ≤ n ∧ i = .int .i64 j ∧ q = .int .i64 x ∧ 0 ≤ x ∧ x ≤ 1048576 ∧ Hid (szSteps (l.drop j) x = szSteps l (left - n)) ∧ Below w.heap.size w wr) (fun _ i _ => n - (intOf i).toNat)
    case atStart => exact ⟨0, left - n, Nat.zero_le _, rfl, rfl, by omega, by omega, by unfold Hid; simp, Below.refl _ _⟩
    case round =>
      obtain ⟨j, x, hj, rfl, rfl, hx0, hx1, HX, hb⟩ := hrel
      have hzr := hb.size
      by_cases hjn : j < n
      · obtain ⟨hk1, ad, rfl, hab, hc0, hc1, hc2, hc3, hc4, hc5, hc6⟩ := stepCells_at (hR.below (hb.mono hB)) HL.out hjn
        have hsz := unhide HS _ (List.getElem_mem hk1)
        obtain ⟨hsz1, hsz2⟩ := hsz
        have HST := Lib.hid (szSteps_drop hk1 x)
        have hge := szStep_ge l[j].b l[j].a x
        have hub := sz_ub_step l[j].b l[j].a x (by omega)
        have hcon := fun (W : World) => l_szStep l[j].K l[j].F l[j].L l[j].T l[j].I l[j].b l[j].a x W hsz1 hsz2 (by omega) (by omega)
        have HCON := hide hcon
        clear hcon hsz1 hsz2
        generalize hy : szStep l[j].b l[j].a x = y at *
        clear hy
        by_cases hneg : y < 0
        · have HR : Hid (szSteps l (left - n) = -1) := by unfold Hid; rw [← HX.out, HST.out, if_pos hneg]
          go_wp2_with (first | (go_at_call 146; refine (unhide HCON _).mono ?_; rintro e w1 ⟨rfl, hb1⟩))
          go_ret
          exact ⟨ret_int (by rw [HF.out, HR.out]), bel⟩
        · have HR : Hid (szSteps (l.drop (j + 1)) y = szSteps l (left - n)) := by unfold Hid; rw [← HX.out, HST.out, if_neg hneg]
          go_wp2_with (first | (go_at_call 146; refine (unhide HCON _).mono ?_; rintro e w1 ⟨rfl, hb1⟩))
          go_roundw
          case rel => exact ⟨j + 1, y, by omega, by go_num, rfl, by omega, by omega, HR.out, bel⟩
          case measure => simp [intOf]; omega
      · have hjn' : j = n := by omega
        have hd : l.drop j = [] := List.drop_eq_nil_of_le (by have := HL.out; omega)
        have HR : Hid (szSteps l (left - n) = x) := by unfold Hid; rw [← HX.out, hd]; rfl
        subst hjn'
        clear hd
        go_wp2
        go_ret
        exact ⟨ret_int (by rw [HF.out, HR.out]), hb⟩
structure PDraft where
  (d1 f1 : Int)
  (ss1 : List ByteArray)
  (d2 f2 : Int)
  (ss2 : List ByteArray)
  (st : List PStep)
def szD (D : PDraft) (left : Int) : Int :=
  if szStrs D.ss1 left < 0 then -1 else if szStrs D.ss2 (szStrs D.ss1 left) < 0 then -1 else szStepL D.st (szStrs D.ss2 (szStrs D.ss1 left))
theorem szD_ub (D : PDraft) (l : Int) (h : l ≤ 1048576) : szD D l ≤ 1048576 := by
  unfold szD; split <;> (first | omega | (split <;> (first | omega | exact szStepL_ub _ _ (sz_ub _ _ (sz_ub _ _ h)))))
theorem szStrs_ge (ss : List ByteArray) (l : Int) : -1 ≤ szStrs ss l := by unfold szStrs; split <;> omega
theorem szStepL_ge (l : List PStep) (q : Int) (h : 0 ≤ q) : -1 ≤ szStepL l q := by
  have : ∀ (l : List PStep) (q : Int), 0 ≤ q → -1 ≤ szSteps l q := by
    intro l
    induction l with
    | nil => intro q h; simp only [szSteps]; omega
    | cons s l ih => intro q h; simp only [szSteps]; split <;> (first | omega | exact ih _ (by omega))
  unfold szStepL; split <;> (first | omega | exact this _ _ (by omega))
structure RdDraft (w : World) (B : Nat) (A1 A2 A3 : Option Addr) (D : PDraft) : Prop where
  s1 : Strs w B A1 D.ss1.length D.ss1
  s2 : Strs w B A2 D.ss2.length D.ss2
  st : Steps w B A3 D.st.length D.st
section
variable {w w' : World} {B B' : Nat} {A1 A2 A3 : Option Addr} {D : PDraft}
theorem RdDraft.below (h : RdDraft w B A1 A2 A3 D) (hb : Below B w w') : RdDraft w' B A1 A2 A3 D := ⟨h.s1.below hb, h.s2.below hb, h.st.below hb⟩
theorem RdDraft.alloc (h : RdDraft w B A1 A2 A3 D) (hB : B ≤ w.heap.size) (o : Obj) : RdDraft (w.alloc o) B A1 A2 A3 D := ⟨h.s1.alloc hB o, h.s2.alloc hB o, h.st.alloc hB o⟩
end
def draftV (D : PDraft) (A1 : Option Addr) (c1 : Nat) (A2 : Option Addr) (c2 : Nat) (A3 : Option Addr) (c3 : Nat) : Array Value :=
  #[.int .i64 D.d1, .int .i64 D.f1, .slice A1 D.ss1.length c1, .int .i64 D.d2, .int .i64 D.f2, .slice A2 D.ss2.length c2, .slice A3 D.st.length c3]
structure OwnDraft (w : World) (base : Nat) (A1 : Option Addr) (c1 : Nat) (A2 : Option Addr) (c2 : Nat) (A3 : Option Addr) (c3 : Nat) (D : PDraft) : Prop where
  o1 : w.ownsRow base 9 1 (.slice A1 D.ss1.length c1) D.ss1.length (D.ss1.map Value.string)
  o2 : w.ownsRow base 9 1 (.slice A2 D.ss2.length c2) D.ss2.length (D.ss2.map Value.string)
  o3 : w.ownsRow base 167 7 (.slice A3 D.st.length c3) D.st.length (D.st.flatMap stepCells)
  ne : ∀ k, (Value.slice A1 D.ss1.length c1).ownBlock = some k → (Value.slice A2 D.ss2.length c2).ownBlock ≠ some k
structure OkDraft (D : PDraft) (m : Nat) : Prop where
  l1 : D.ss1.length ≤ m
  l2 : D.ss2.length ≤ m
  l3 : D.st.length ≤ m
  z1 : ∀ s ∈ D.ss1, s.size ≤ 16777216
  z2 : ∀ s ∈ D.ss2, s.size ≤ 16777216
  z3 : ∀ s ∈ D.st, s.b.size ≤ 16777216 ∧ s.a.size ≤ 16777216
def FreshDraft (base : Nat) (D : PDraft) (w : World) (e : Ending) (w' : World) : Prop :=
  ∃ A1 c1 A2 c2 A3 c3, e = .returned (.agg (draftV D A1 c1 A2 c2 A3 c3)) ∧ OwnDraft w' base A1 c1 A2 c2 A3 c3 D ∧ Below w.heap.size w w'
set_option maxHeartbeats 1600000 in
theorem l_toDraft (D : PDraft) (B : Nat) (A1 A2 A3 : Option Addr) (c1 c2 c3 : Nat) (w : World) (hS : RdDraft w B A1 A2 A3 D) (hB : B ≤ w.heap.size) :
    Calls Tryz.prog 51 #[.agg (draftV D A1 c1 A2 c2 A3 c3)] w (FreshDraft w.heap.size D w) := by
  obtain ⟨d1, f1, ss1, d2, f2, ss2, st⟩ := D
  obtain ⟨h1, h2, h3⟩ := hS
  simp only at h1 h2 h3
  unfold draftV
  simp only
  have hn1 := h1.nb
  have hn2 := h2.nb
  have hn3 := h3.nb
  go_enter Tryz.func51, Tryz.ntmps51
  go_wp2_with fail
  refine (l_toCard d1 f1 B A1 _ c1 ss1 _ (((h1.alloc hB _).alloc (by simp; omega) _).alloc (by simp; omega) _) (by simp; omega)).mono ?_
  rintro e w1 ⟨B1, e1, rfl, ho1, hb1⟩
  obtain ⟨hcb1, hfb1⟩ := bcell hb1
  have hz_w1_0 : w.heap.size < w1.heap.size := (by have hzz := hb1.size; (try simp at hzz); omega); have hy_w1_0 := Nat.le_of_lt hz_w1_0; have hz_w1_1 : w.heap.size + 1 < w1.heap.size := (by have hzz := hb1.size; (try simp at hzz); omega); have hy_w1_1 := Nat.le_of_lt hz_w1_1; have hz_w1_2 : w.heap.size + 1 + 1 < w1.heap.size := (by have hzz := hb1.size; (try simp at hzz); omega); have hy_w1_2 := Nat.le_of_lt hz_w1_2
  have hbw1 : Below w.heap.size w w1 := bel
  go_wp2_with fail
  refine (l_toCard d2 f2 B A2 _ c2 ss2 _ (by exact h2.below (Below.mono (B := w.heap.size) bel hB)) (by simp [World.setCell]; omega)).mono ?_
  rintro e w2 ⟨B2, e2, rfl, ho2, hb2⟩
  obtain ⟨hcb2, hfb2⟩ := bcell hb2
  have hs2 : w1.heap.size ≤ w2.heap.size := by have := hb2.size; simp [World.setCell] at this; exact this
  have hz20 : w.heap.size < w2.heap.size := by omega
  have hz21 : w.heap.size + 1 < w2.heap.size := by omega
  have hz22 : w.heap.size + 1 + 1 < w2.heap.size := by omega
  have hbw2 : Below w.heap.size w w2 := hbw1.trans ((((Below.refl w.heap.size w1).setCell (p := ⟨w.heap.size + 1 + 1, 0, none⟩) (by simp; try omega) _).setCell (p := ⟨w.heap.size + 1 + 1, 1, none⟩) (by simp; try omega) _).setCell (p := ⟨w.heap.size + 1 + 1, 2, none⟩) (by simp; try omega) _ |>.trans (hb2.mono (by simp [World.setCell]; omega)))
  go_wp2_with fail
  refine (l_toStepS B A3 _ c3 st _ (by exact h3.below (Below.mono (B := w.heap.size) bel hB)) (by simp [World.setCell]; omega)).mono ?_
  rintro e w3 ⟨B3, e3, rfl, ho3, hb3⟩
  obtain ⟨hcb3, hfb3⟩ := bcell hb3
  have hs3 : w2.heap.size ≤ w3.heap.size := by have := hb3.size; simp [World.setCell] at this; exact this
  have hz30 : w.heap.size < w3.heap.size := by omega
  have hz31 : w.heap.size + 1 < w3.heap.size := by omega
  have hz32 : w.heap.size + 1 + 1 < w3.heap.size := by omega
  go_wp2
  refine bodyPost_ret (v := .agg #[.int .i64 d1, .int .i64 f1, .slice B1 ss1.length e1, .int .i64 d2, .int .i64 f2, .slice B2 ss2.length e2, .slice B3 st.length e3]) (by simp [results, Tryz.results51, go_sem, *]) rfl ?_
  have hbw3 : Below w.heap.size w w3 := hbw2.trans ((((Below.refl w.heap.size w2).setCell (p := ⟨w.heap.size + 1 + 1, 3, none⟩) (by simp; try omega) _).setCell (p := ⟨w.heap.size + 1 + 1, 4, none⟩) (by simp; try omega) _).setCell (p := ⟨w.heap.size + 1 + 1, 5, none⟩) (by simp; try omega) _ |>.trans (hb3.mono (by simp [World.setCell]; omega)))
  have HBW3 := hide hbw3
  clear hbw1 hbw2 hbw3
  have hne : ∀ k, (Value.slice B1 ss1.length e1).ownBlock = some k → (Value.slice B2 ss2.length e2).ownBlock ≠ some k := by
    intro k hk hk2
    have a := (ho1.lt k hk).2
    have b := (ho2.lt k hk2).1
    simp [World.setCell] at b
    omega
  refine ⟨B1, e1, B2, e2, B3, e3, rfl, ⟨own_up ho1 upr (by first | exact Nat.le_refl _ | (simp; done) | omega | (simp; omega) | exact (‹_ ∧ _ ∧ Below _ _ _›).2.2.size), own_up ho2 upr (by first | exact Nat.le_refl _ | (simp; done) | omega | (simp; omega) | exact (‹_ ∧ _ ∧ Below _ _ _›).2.2.size), own_up ho3 upr (by first | exact Nat.le_refl _ | (simp; done) | omega | (simp; omega) | exact (‹_ ∧ _ ∧ Below _ _ _›).2.2.size), hne⟩, ?_⟩
  have hbw3 := unhide HBW3
  clear hb1 hb2 hb3
  exact bel
set_option maxHeartbeats 1600000 in
theorem l_eqDraft_same (D : PDraft) (B : Nat) (A1 A2 A3 B1 B2 B3 : Option Addr) (c1 c2 c3 e1 e2 e3 : Nat) (w : World) (hS : RdDraft w B A1 A2 A3 D) (hT : RdDraft w B B1 B2 B3 D) (hB : B ≤ w.heap.size) :
    Calls Tryz.prog 54 #[.agg (draftV D A1 c1 A2 c2 A3 c3), .agg (draftV D B1 e1 B2 e2 B3 e3)] w fun e w' => e = .returned (.bool true) ∧ Below w.heap.size w w' := by
  obtain ⟨d1, f1, ss1, d2, f2, ss2, st⟩ := D
  obtain ⟨h1, h2, h3⟩ := hS
  obtain ⟨g1, g2, g3⟩ := hT
  simp only at h1 h2 h3 g1 g2 g3
  unfold draftV
  simp only
  have hn1 := h1.nb
  have hn2 := h2.nb
  have hn3 := h3.nb
  go_enter Tryz.func54, Tryz.ntmps54
  go_wp2_with fail
  refine (l_eqCard_args d1 f1 B _ _ _ _ _ _ ss1 _ ((h1.alloc hB _).alloc (by simp; omega) _) ((g1.alloc hB _).alloc (by simp; omega) _) (by simp; omega)).mono ?_
  rintro e w1 ⟨rfl, hb1⟩
  obtain ⟨hcb1, hfb1⟩ := bcell hb1
  have hz_w1_0 : w.heap.size < w1.heap.size := (by have hzz := hb1.size; (try simp at hzz); omega); have hy_w1_0 := Nat.le_of_lt hz_w1_0; have hz_w1_1 : w.heap.size + 1 < w1.heap.size := (by have hzz := hb1.size; (try simp at hzz); omega); have hy_w1_1 := Nat.le_of_lt hz_w1_1
  have hbw1 : Below w.heap.size w w1 := bel
  go_wp2_with fail
  refine (l_eqCard_args d2 f2 B _ _ _ _ _ _ ss2 _ (h2.below (hbw1.mono hB)) (g2.below (hbw1.mono hB)) (by omega)).mono ?_
  rintro e w2 ⟨rfl, hb2⟩
  obtain ⟨hcb2, hfb2⟩ := bcell hb2
  have hs2 := hb2.size
  have hz20 : w.heap.size < w2.heap.size := by omega
  have hz21 : w.heap.size + 1 < w2.heap.size := by omega
  have hbw2 : Below w.heap.size w w2 := hbw1.trans (hb2.mono (by omega))
  go_wp2_with fail
  refine (l_eqStepS_same B _ _ _ _ _ st _ (h3.below (hbw2.mono hB)) (g3.below (hbw2.mono hB)) (by omega)).mono ?_
  rintro e w3 ⟨rfl, hb3⟩
  go_wp2
  go_ret
  exact ⟨rfl, hbw2.trans (hb3.mono (by omega))⟩
theorem szDraft_n {D : PDraft} {left : Int} (h : szD D left < 0) : szD D left = -1 := by
  have h1 := szStrs_ge D.ss1 left
  unfold szD at h ⊢
  split
  · rfl
  · rename_i h2
    rw [if_neg h2] at h
    split
    · rfl
    · rename_i h3
      rw [if_neg h3] at h
      have := szStepL_ge D.st (szStrs D.ss2 (szStrs D.ss1 left)) (by omega)
      omega
set_option maxHeartbeats 3200000 in
theorem l_szDraft (D : PDraft) (B : Nat) (A1 A2 A3 : Option Addr) (c1 c2 c3 : Nat) (left : Int) (w : World) (hB : B ≤ w.heap.size) (hR1 : Reads w B 1 A1 D.ss1.length (D.ss1.map Value.string)) (hR2 : Reads w B 1 A2 D.ss2.length (D.ss2.map Value.string)) (hR3 : Reads w B 7 A3 D.st.length (D.st.flatMap stepCells))
    (hn1 : D.ss1.length ≤ 9223372036854775807) (hn2 : D.ss2.length ≤ 9223372036854775807) (hn3 : D.st.length ≤ 9223372036854775807) (hs1 : ∀ s ∈ D.ss1, s.size ≤ 9223372036854775807) (hs2 : ∀ s ∈ D.ss2, s.size ≤ 9223372036854775807) (hs3 : ∀ s ∈ D.st, s.b.size ≤ 9223372036854775807 ∧ s.a.size ≤ 9223372036854775807) (h0 : -1 ≤ left) (h1 : left ≤ 1048576) :
    Calls Tryz.prog 44 #[.agg (draftV D A1 c1 A2 c2 A3 c3), .int .i64 left] w fun e w' => e = .returned (.int .i64 (szD D left)) ∧ Below w.heap.size w w' := by
  obtain ⟨d1, f1, ss1, d2, f2, ss2, st⟩ := D
  simp only at hR1 hR2 hR3 hn1 hn2 hn3 hs1 hs2 hs3
  have HS1 := hide hs1
  have HS2 := hide hs2
  have HS3 := hide hs3
  clear hs1 hs2 hs3
  unfold szD draftV
  simp only
  have u1 := sz_ub ss1 left h1
  have g1 := szStrs_ge ss1 left
  have u2 := sz_ub ss2 (szStrs ss1 left) u1
  have g2 := szStrs_ge ss2 (szStrs ss1 left)
  have u3 := szStepL_ub st (szStrs ss2 (szStrs ss1 left)) u2
  have g3 := szStepL_ge st (szStrs ss2 (szStrs ss1 left))
  have hc1 := fun (W : World) (h : Below w.heap.size w W) => l_szCard d1 f1 B A1 ss1.length c1 ss1 left W (Nat.le_trans hB h.size) (hR1.below (h.mono hB)) hn1 (unhide HS1) h0 h1
  have hc2 := fun (W : World) (h : Below w.heap.size w W) => l_szCard d2 f2 B A2 ss2.length c2 ss2 (szStrs ss1 left) W (Nat.le_trans hB h.size) (hR2.below (h.mono hB)) hn2 (unhide HS2) g1 u1
  have hc3 := fun (W : World) (h : Below w.heap.size w W) => l_szStepS B A3 st.length c3 st (szStrs ss2 (szStrs ss1 left)) W (hR3.below (h.mono hB)) (Nat.le_trans hB h.size) hn3 (unhide HS3) g2 u2
  have HC1 := hide hc1
  have HC2 := hide hc2
  have HC3 := hide hc3
  clear hc1 hc2 hc3
  generalize eq3 : szStepL st (szStrs ss2 (szStrs ss1 left)) = q3 at *
  generalize eq2 : szStrs ss2 (szStrs ss1 left) = q2 at *
  generalize eq1 : szStrs ss1 left = q1 at *
  clear eq1 eq2 eq3 hR1 hR2 hR3
  by_cases n1 : q1 < 0
  · rw [if_pos n1]
    go_enter Tryz.func44, Tryz.ntmps44
    go_wp2_with fail
    refine (unhide HC1 _ (by exact bel)).mono ?_
    rintro e w1 ⟨rfl, hb1⟩
    go_wp2
    go_ret
    exact ⟨rfl, bel⟩
  · rw [if_neg n1]
    by_cases n2 : q2 < 0
    · rw [if_pos n2]
      go_enter Tryz.func44, Tryz.ntmps44
      go_wp2_with fail
      refine (unhide HC1 _ (by exact bel)).mono ?_
      rintro e w1 ⟨rfl, hb1⟩
      obtain ⟨hcb1, hfb1⟩ := bcell hb1
      have hz_w1_0 : w.heap.size < w1.heap.size := (by have hzz := hb1.size; (try simp at hzz); omega); have hy_w1_0 := Nat.le_of_lt hz_w1_0
      have hbw1 : Below w.heap.size w w1 := bel
      go_wp2_with fail
      refine (unhide HC2 _ (by exact bel)).mono ?_
      rintro e w2 ⟨rfl, hb2⟩
      go_wp2
      go_ret
      exact ⟨rfl, bel⟩
    · rw [if_neg n2]
      have hg3 := g3 (by omega)
      clear g3
      go_enter Tryz.func44, Tryz.ntmps44
      go_wp2_with fail
      refine (unhide HC1 _ (by exact bel)).mono ?_
      rintro e w1 ⟨rfl, hb1⟩
      obtain ⟨hcb1, hfb1⟩ := bcell hb1
      have hz_w1_0 : w.heap.size < w1.heap.size := (by have hzz := hb1.size; (try simp at hzz); omega); have hy_w1_0 := Nat.le_of_lt hz_w1_0
      have hbw1 : Below w.heap.size w w1 := bel
      go_wp2_with fail
      refine (unhide HC2 _ (by exact bel)).mono ?_
      rintro e w2 ⟨rfl, hb2⟩
      obtain ⟨hcb2, hfb2⟩ := bcell hb2
      have hs2 := hb2.size
      have hz20 : w.heap.size < w2.heap.size := by omega
      have hbw2 : Below w.heap.size w w2 := hbw1.trans (hb2.mono (by omega))
      go_wp2_with fail
      refine (unhide HC3 _ (by exact bel)).mono ?_
      rintro e w3 ⟨rfl, hb3⟩
      by_cases n3 : q3 < 0
      · have h3 : q3 = -1 := by omega
        have H3 := Lib.hid h3
        clear h3
        go_wp2
        go_ret
        exact ⟨ret_int (by rw [H3.out]), hbw2.trans (hb3.mono (by omega))⟩
      · go_wp2
        go_ret
        exact ⟨rfl, hbw2.trans (hb3.mono (by omega))⟩
end Go.Proofs.YtlimlolciekimaaGreatDoor
namespace Go.Proofs.YtlimlolciekimaaGreatDoor
open Go.ChangeShapes Go.WideShapes Go.ChangeAt Go.RowKit
set_option linter.unusedVariables false
set_option maxRecDepth 10000
structure OwnSt (w : World) (lo hi : Nat) (A : Option Addr) (c : Nat) (st : List PStep) : Prop where
  row : w.ownsRow lo 167 7 (.slice A st.length c) st.length (st.flatMap stepCells)
  top : ∀ k, (Value.slice A st.length c).ownBlock = some k → k < hi
section
variable {lo hi lo' hi' : Nat} {w w' : World} {A : Option Addr} {c : Nat} {st : List PStep}
theorem OwnSt.below (ho : OwnSt w lo hi A c st) (hb : Below w.heap.size w w') : OwnSt w' lo hi A c st := ⟨own_below ho.row hb, ho.top⟩
theorem OwnSt.box {g : Nat} {cs : Array Value} {t : TypeId} {fr : Nat × Nat} (ho : OwnSt w lo hi A c st) (hk : w.heap[g]? = some (.cells cs t fr)) (ht : t ∉ rowTys) (hg : w.grownBy w' (some g)) : OwnSt w' lo hi A c st := ⟨own_box ho.row (by decide) hk ht hg, ho.top⟩
theorem OwnSt.boxy (ho : OwnSt w lo hi A c st) (h : Boxy w w') : OwnSt w' lo hi A c st := ⟨own_boxy ho.row (by decide) h, ho.top⟩
theorem OwnSt.alloc (ho : OwnSt w lo hi A c st) (o : Obj) : OwnSt (w.alloc o) lo hi A c st := ⟨ho.row.alloc _, ho.top⟩
theorem OwnSt.of (ho : w.ownsRow lo 167 7 (.slice A st.length c) st.length (st.flatMap stepCells)) (h : w.heap.size ≤ hi) : OwnSt w lo hi A c st := ⟨ho, fun k hk => by have := (ho.lt k hk).2; omega⟩
end
structure OwnD (w : World) (lo hi : Nat) (A1 : Option Addr) (c1 : Nat) (A2 : Option Addr) (c2 : Nat) (A3 : Option Addr) (c3 : Nat) (D : PDraft) : Prop where
  o1 : OwnS w lo hi A1 c1 D.ss1
  o2 : OwnS w lo hi A2 c2 D.ss2
  o3 : OwnSt w lo hi A3 c3 D.st
  ne : ∀ k, (Value.slice A1 D.ss1.length c1).ownBlock = some k → (Value.slice A2 D.ss2.length c2).ownBlock ≠ some k
section
variable {lo hi lo' hi' : Nat} {w w' : World} {A1 A2 A3 : Option Addr} {c1 c2 c3 : Nat} {D : PDraft}
theorem OwnD.of (ho : OwnDraft w lo A1 c1 A2 c2 A3 c3 D) (h : w.heap.size ≤ hi) : OwnD w lo hi A1 c1 A2 c2 A3 c3 D := ⟨OwnS.of ho.o1 h, OwnS.of ho.o2 h, OwnSt.of ho.o3 h, ho.ne⟩
end
def UDraft (d1 f1 : Int) (ss1 : List ByteArray) (d2 f2 : Int) (ss2 : List ByteArray) (st : List PStep) (w : World) (e : Ending) (w' : World) : Prop :=
  ∃ B1 e1 B2 e2 B3 e3, e = .returned (.agg #[.int .i64 d1, .int .i64 f1, .slice B1 ss1.length e1, .int .i64 d2, .int .i64 f2, .slice B2 ss2.length e2, .slice B3 st.length e3]) ∧ OwnD w' w.heap.size w'.heap.size B1 e1 B2 e2 B3 e3 ⟨d1, f1, ss1, d2, f2, ss2, st⟩ ∧ Below w.heap.size w w'
def UDraftB (d1 f1 : Int) (ss1 : List ByteArray) (d2 f2 : Int) (ss2 : List ByteArray) (st : List PStep) (b : Bool) (w : World) (e : Ending) (w' : World) : Prop :=
  ∃ B1 e1 B2 e2 B3 e3, e = .returned (.tuple #[.agg #[.int .i64 d1, .int .i64 f1, .slice B1 ss1.length e1, .int .i64 d2, .int .i64 f2, .slice B2 ss2.length e2, .slice B3 st.length e3], .bool b]) ∧ OwnD w' w.heap.size w'.heap.size B1 e1 B2 e2 B3 e3 ⟨d1, f1, ss1, d2, f2, ss2, st⟩ ∧ Below w.heap.size w w'
structure MkD (w : World) (lo hi : Nat) (A1 : Option Addr) (c1 n1 : Nat) (A2 : Option Addr) (c2 n2 : Nat) (A3 : Option Addr) (c3 n3 : Nat) (k : Int) : Prop where
  m1 : MkS w lo hi A1 c1 k n1
  m2 : MkS w lo hi A2 c2 (k + n1) n2
  m3 : w.ownsRow lo 167 7 (.slice A3 n3 c3) n3 (marksStep (k + n1 + n2) n3)
section
variable {lo hi : Nat} {w w' : World} {A1 A2 A3 : Option Addr} {c1 c2 c3 n1 n2 n3 : Nat} {k : Int}
end
end Go.Proofs.YtlimlolciekimaaGreatDoor
namespace Go.Proofs.YtlimlolciekimaaGreatDoor
open Go.ChangeShapes Go.WideShapes Go.ChangeAt Go.RowKit
set_option linter.unusedVariables false
set_option maxRecDepth 10000
structure OwnDW (w : World) (lo hi : Nat) (A1 : Option Addr) (c1 : Nat) (A2 : Option Addr) (c2 : Nat) (A3 : Option Addr) (c3 : Nat) (D : PDraft) : Prop where
  o1 : OwnS w lo hi A1 c1 D.ss1
  o2 : OwnS w lo hi A2 c2 D.ss2
  o3 : ∃ c0, OwnSt w lo hi A3 c0 D.st
  ne : ∀ k, (Value.slice A1 D.ss1.length c1).ownBlock = some k → (Value.slice A2 D.ss2.length c2).ownBlock ≠ some k
section
variable {lo hi lo' hi' : Nat} {w w' : World} {A1 A2 A3 : Option Addr} {c1 c2 c3 : Nat} {D : PDraft}
theorem OwnDW.below (ho : OwnDW w lo hi A1 c1 A2 c2 A3 c3 D) (hb : Below w.heap.size w w') : OwnDW w' lo hi A1 c1 A2 c2 A3 c3 D := ⟨ho.o1.below hb, ho.o2.below hb, (ho.o3.elim fun c0 h3 => ⟨c0, h3.below hb⟩), ho.ne⟩
theorem OwnDW.box {g : Nat} {cs : Array Value} {t : TypeId} {fr : Nat × Nat} (ho : OwnDW w lo hi A1 c1 A2 c2 A3 c3 D) (hk : w.heap[g]? = some (.cells cs t fr)) (ht : t ∉ rowTys) (hg : w.grownBy w' (some g)) : OwnDW w' lo hi A1 c1 A2 c2 A3 c3 D := ⟨ho.o1.box hk ht hg, ho.o2.box hk ht hg, (ho.o3.elim fun c0 h3 => ⟨c0, h3.box hk ht hg⟩), ho.ne⟩
theorem OwnDW.boxy (ho : OwnDW w lo hi A1 c1 A2 c2 A3 c3 D) (h : Boxy w w') : OwnDW w' lo hi A1 c1 A2 c2 A3 c3 D := ⟨ho.o1.boxy h, ho.o2.boxy h, (ho.o3.elim fun c0 h3 => ⟨c0, h3.boxy h⟩), ho.ne⟩
theorem OwnDW.alloc (ho : OwnDW w lo hi A1 c1 A2 c2 A3 c3 D) (o : Obj) : OwnDW (w.alloc o) lo hi A1 c1 A2 c2 A3 c3 D := ⟨ho.o1.alloc o, ho.o2.alloc o, (ho.o3.elim fun c0 h3 => ⟨c0, h3.alloc o⟩), ho.ne⟩
theorem OwnDW.of (ho : OwnD w lo hi A1 c1 A2 c2 A3 c3 D) : OwnDW w lo hi A1 c1 A2 c2 A3 c3 D := ⟨ho.o1, ho.o2, ⟨c3, ho.o3⟩, ho.ne⟩
theorem OwnDW.rd (ho : OwnDW w lo hi A1 c1 A2 c2 A3 c3 D) (hD : OkDraft D 16777216) : RdDraft w w.heap.size A1 A2 A3 D := by
  obtain ⟨c0, h3⟩ := ho.o3
  exact ⟨ho.o1.rd hD.l1 hD.z1, ho.o2.rd hD.l2 hD.z2, ⟨Reads.of_own h3.row, hD.l3, hD.z3⟩⟩
end
def UDraftW (d1 f1 : Int) (ss1 : List ByteArray) (d2 f2 : Int) (ss2 : List ByteArray) (st : List PStep) (w : World) (e : Ending) (w' : World) : Prop :=
  ∃ B1 e1 B2 e2 B3 e3, e = .returned (.agg #[.int .i64 d1, .int .i64 f1, .slice B1 ss1.length e1, .int .i64 d2, .int .i64 f2, .slice B2 ss2.length e2, .slice B3 st.length e3]) ∧ OwnDW w' w.heap.size w'.heap.size B1 e1 B2 e2 B3 e3 ⟨d1, f1, ss1, d2, f2, ss2, st⟩ ∧ Below w.heap.size w w'
def UDraftWB (d1 f1 : Int) (ss1 : List ByteArray) (d2 f2 : Int) (ss2 : List ByteArray) (st : List PStep) (b : Bool) (w : World) (e : Ending) (w' : World) : Prop :=
  ∃ B1 e1 B2 e2 B3 e3, e = .returned (.tuple #[.agg #[.int .i64 d1, .int .i64 f1, .slice B1 ss1.length e1, .int .i64 d2, .int .i64 f2, .slice B2 ss2.length e2, .slice B3 st.length e3], .bool b]) ∧ OwnDW w' w.heap.size w'.heap.size B1 e1 B2 e2 B3 e3 ⟨d1, f1, ss1, d2, f2, ss2, st⟩ ∧ Below w.heap.size w w'
theorem u_toDraftW (d1 f1 : Int) (ss1 : List ByteArray) (d2 f2 : Int) (ss2 : List ByteArray) (st : List PStep) (B : Nat) (A1 A2 A3 : Option Addr) (c1 c2 c3 : Nat) (w : World) (hS : RdDraft w B A1 A2 A3 ⟨d1, f1, ss1, d2, f2, ss2, st⟩) (hB : B ≤ w.heap.size) :
    Calls Tryz.prog 51 #[.agg #[.int .i64 d1, .int .i64 f1, .slice A1 ss1.length c1, .int .i64 d2, .int .i64 f2, .slice A2 ss2.length c2, .slice A3 st.length c3]] w (UDraftW d1 f1 ss1 d2 f2 ss2 st w) :=
  (l_toDraft ⟨d1, f1, ss1, d2, f2, ss2, st⟩ B A1 A2 A3 c1 c2 c3 w hS hB).mono fun _ _ h => by
    obtain ⟨B1, e1, B2, e2, B3, e3, he, ho, hb⟩ := h
    exact ⟨B1, e1, B2, e2, B3, e3, he, OwnDW.of (OwnD.of ho (Nat.le_refl _)), hb⟩
theorem u_eqDraftW (d1 f1 : Int) (ss1 : List ByteArray) (d2 f2 : Int) (ss2 : List ByteArray) (st : List PStep) (A1 A2 A3 B1 B2 B3 : Option Addr) (c1 c2 c3 e1 e2 e3 : Nat) (lo1 hi1 lo2 hi2 : Nat) (w : World) (h1 : OwnDW w lo1 hi1 A1 c1 A2 c2 A3 c3 ⟨d1, f1, ss1, d2, f2, ss2, st⟩) (h2 : OwnDW w lo2 hi2 B1 e1 B2 e2 B3 e3 ⟨d1, f1, ss1, d2, f2, ss2, st⟩) (hok : OkDraft ⟨d1, f1, ss1, d2, f2, ss2, st⟩ 16777216) :
    Calls Tryz.prog 54 #[.agg #[.int .i64 d1, .int .i64 f1, .slice A1 ss1.length c1, .int .i64 d2, .int .i64 f2, .slice A2 ss2.length c2, .slice A3 st.length c3], .agg #[.int .i64 d1, .int .i64 f1, .slice B1 ss1.length e1, .int .i64 d2, .int .i64 f2, .slice B2 ss2.length e2, .slice B3 st.length e3]] w fun e w' => e = .returned (.bool true) ∧ Below w.heap.size w w' :=
  l_eqDraft_same ⟨d1, f1, ss1, d2, f2, ss2, st⟩ w.heap.size A1 A2 A3 B1 B2 B3 c1 c2 c3 e1 e2 e3 w (h1.rd hok) (h2.rd hok) (Nat.le_refl _)
structure MkDW (w : World) (lo hi : Nat) (A1 : Option Addr) (c1 n1 : Nat) (A2 : Option Addr) (c2 n2 : Nat) (A3 : Option Addr) (c3 n3 : Nat) (k : Int) : Prop where
  m1 : MkS w lo hi A1 c1 k n1
  m2 : MkS w lo hi A2 c2 (k + n1) n2
  m3 : ∃ c0, w.ownsRow lo 167 7 (.slice A3 n3 c0) n3 (marksStep (k + n1 + n2) n3)
section
variable {lo hi : Nat} {w w' : World} {A1 A2 A3 : Option Addr} {c1 c2 c3 n1 n2 n3 : Nat} {k : Int}
end
set_option maxHeartbeats 1600000 in
theorem u_markDraftW (d1 f1 : Int) (ss1 : List ByteArray) (d2 f2 : Int) (ss2 : List ByteArray) (st : List PStep) (A1 A2 A3 : Option Addr) (c1 c2 c3 lo hi : Nat) (k : Int) (w : World) (h : OwnDW w lo hi A1 c1 A2 c2 A3 c3 ⟨d1, f1, ss1, d2, f2, ss2, st⟩) (hk0 : 0 ≤ k) (hk1 : k ≤ 4503599500000000) (hok : OkDraft ⟨d1, f1, ss1, d2, f2, ss2, st⟩ 16777216) :
    Calls Tryz.prog 57 #[.agg #[.int .i64 d1, .int .i64 f1, .slice A1 ss1.length c1, .int .i64 d2, .int .i64 f2, .slice A2 ss2.length c2, .slice A3 st.length c3], .int .i64 k] w fun e w' =>
      e = .returned (.int .i64 (k + ss1.length + ss2.length + 7 * (st.length : Int))) ∧ MkDW w' lo hi A1 c1 ss1.length A2 c2 ss2.length A3 c3 st.length k ∧ Within lo hi w w' := by
  obtain ⟨h1, h2, ⟨c0, h3⟩, hne⟩ := h
  simp only at h1 h2 h3 hne
  have hn1 : ss1.length ≤ 16777216 := hok.l1
  have hn2 : ss2.length ≤ 16777216 := hok.l2
  have hn3 : st.length ≤ 16777216 := hok.l3
  clear hok
  have lt1 := h1.row.lt
  have lt2 := h2.row.lt
  have lt3 := h3.row.lt
  have t1 := h1.top
  have t2 := h2.top
  have t3 := h3.top
  have ne13 := own_ne_type h1.row h3.row (by decide)
  have ne23 := own_ne_type h2.row h3.row (by decide)
  have LT1 := hide lt1
  have LT2 := hide lt2
  have LT3 := hide lt3
  have T1 := hide t1
  have T2 := hide t2
  have T3 := hide t3
  have NE := hide hne
  have NE13 := hide ne13
  have NE23 := hide ne23
  clear lt1 lt2 lt3 t1 t2 t3 hne ne13 ne23
  go_enter Tryz.func57, Tryz.ntmps57
  go_wp2_with fail
  have hk0_ := blk_new w (.cells #[.int .i64 d1, .int .i64 f1, .slice A1 ss1.length c1, .int .i64 d2, .int .i64 f2, .slice A2 ss2.length c2, .slice A3 st.length c3] 29)
  have a1 := h1.row.alloc (.cells #[.int .i64 d1, .int .i64 f1, .slice A1 ss1.length c1, .int .i64 d2, .int .i64 f2, .slice A2 ss2.length c2, .slice A3 st.length c3] 29)
  have a2 := h2.row.alloc (.cells #[.int .i64 d1, .int .i64 f1, .slice A1 ss1.length c1, .int .i64 d2, .int .i64 f2, .slice A2 ss2.length c2, .slice A3 st.length c3] 29)
  have a3 := h3.row.alloc (.cells #[.int .i64 d1, .int .i64 f1, .slice A1 ss1.length c1, .int .i64 d2, .int .i64 f2, .slice A2 ss2.length c2, .slice A3 st.length c3] 29)
  have hW0 : Within lo hi w (w.alloc (.cells #[.int .i64 d1, .int .i64 f1, .slice A1 ss1.length c1, .int .i64 d2, .int .i64 f2, .slice A2 ss2.length c2, .slice A3 st.length c3] 29)) := Within.of_below ((Below.refl _ _).alloc (Nat.le_refl _) _)
  clear h1 h2 h3
  refine (l_markCard lo _ _ _ _ _ _ k _ a1 hk0 (by omega) hn1).mono ?_
  rintro e w1 ⟨rfl, m1, hg1⟩
  have hk1_ := blk_markedk hk0_ hg1 a1 (by decide)
  have b2 := own_grown a2 hg1 (fun k hk he => unhide NE k he hk)
  have b3 := own_grown a3 hg1 (fun k hk he => unhide NE13 k he hk)
  have hW1 := hW0.trans (Within.of_grown a1 (by decide) hg1 (Nat.le_refl _) (unhide T1))
  clear hk0_ a2 a3 hW0 hg1 a1
  obtain ⟨hx0, hx1, hx2, hx3, hx4, hx5, hx6, hxl⟩ := blk7 hk1_
  go_wp2_with fail
  refine (l_markCard lo _ _ _ _ _ _ (k + ss1.length) _ b2 (by omega) (by omega) hn2).mono ?_
  rintro e w2 ⟨rfl, m2, hg2⟩
  clear hx0 hx1 hx2 hx3 hx4 hx5 hx6 hxl
  have hk2_ := blk_markedk hk1_ hg2 b2 (by decide)
  have n1 := own_grown m1 hg2 (fun k hk he => unhide NE k hk he)
  have c3_ := own_grown b3 hg2 (fun k hk he => unhide NE23 k he hk)
  have hW2 := hW1.trans (Within.of_grown b2 (by decide) hg2 (Nat.le_refl _) (unhide T2))
  clear hk1_ b2 b3 hW1 hg2 m1
  obtain ⟨hx0, hx1, hx2, hx3, hx4, hx5, hx6, hxl⟩ := blk7 hk2_
  go_wp2_with fail
  refine (l_markStepS lo _ _ _ _ _ (k + ss1.length + ss2.length) _ c3_ (by omega) (by omega) hn3).mono ?_
  rintro e w3 ⟨rfl, m3, hg3⟩
  clear hx0 hx1 hx2 hx3 hx4 hx5 hx6 hxl
  have n1' := own_grown n1 hg3 (fun k hk he => unhide NE13 k hk he)
  have n2' := own_grown m2 hg3 (fun k hk he => unhide NE23 k hk he)
  have hW3 := hW2.trans (Within.of_grown c3_ (by decide) hg3 (Nat.le_refl _) (unhide T3))
  clear hW2 hg3 n1 m2
  go_wp2
  go_ret
  exact ⟨rfl, ⟨⟨n1', unhide T1⟩, ⟨n2', unhide T2⟩, ⟨c0, m3⟩⟩, hW3⟩
end Go.Proofs.YtlimlolciekimaaGreatDoor
namespace Go.Proofs.YtlimlolciekimaaGreatDoor
open Go.ChangeShapes Go.WideShapes Go.ChangeAt Go.RowKit
set_option linter.unusedVariables false
set_option maxRecDepth 10000
theorem OkDraft.more {D : PDraft} {m k : Nat} (h : OkDraft D m) (hm : m ≤ k) : OkDraft D k := ⟨by have := h.l1; omega, by have := h.l2; omega, by have := h.l3; omega, h.z1, h.z2, h.z3⟩
structure RawDraft (w : World) (B : Nat) (A1 A2 A3 : Option Addr) (D : PDraft) : Prop where
  r1 : Reads w B 1 A1 D.ss1.length (D.ss1.map Value.string)
  r2 : Reads w B 1 A2 D.ss2.length (D.ss2.map Value.string)
  r3 : Reads w B 7 A3 D.st.length (D.st.flatMap stepCells)
  n1 : D.ss1.length ≤ 9223372036854775807
  n2 : D.ss2.length ≤ 9223372036854775807
  n3 : D.st.length ≤ 9223372036854775807
  z1 : ∀ s ∈ D.ss1, s.size ≤ 9223372036854775807
  z2 : ∀ s ∈ D.ss2, s.size ≤ 9223372036854775807
  z3 : ∀ s ∈ D.st, s.b.size ≤ 9223372036854775807 ∧ s.a.size ≤ 9223372036854775807
theorem RawDraft.below {w w' : World} {B : Nat} {A1 A2 A3 : Option Addr} {D : PDraft} (h : RawDraft w B A1 A2 A3 D) (hb : Below B w w') : RawDraft w' B A1 A2 A3 D := ⟨h.r1.below hb, h.r2.below hb, h.r3.below hb, h.n1, h.n2, h.n3, h.z1, h.z2, h.z3⟩
theorem RdDraft.raw {w : World} {B : Nat} {A1 A2 A3 : Option Addr} {D : PDraft} (h : RdDraft w B A1 A2 A3 D) : RawDraft w B A1 A2 A3 D :=
  ⟨h.s1.rd, h.s2.rd, h.st.rd, by have := h.s1.nb; omega, by have := h.s2.nb; omega, by have := h.st.nb; omega, fun s hs => by have := h.s1.sb s hs; omega, fun s hs => by have := h.s2.sb s hs; omega, fun s hs => by have := h.st.sb s hs; omega⟩
theorem draft_of_sz {w : World} {A1 A2 A3 : Option Addr} {D : PDraft} {l : Int} (h : RawDraft w w.heap.size A1 A2 A3 D) (hl : l ≤ 1048576) (hz : 0 ≤ szD D l) : RdDraft w w.heap.size A1 A2 A3 D ∧ OkDraft D 1048576 := by
  unfold szD at hz
  split at hz
  · omega
  · split at hz
    · omega
    · obtain ⟨h1, n1⟩ := strs_of_szl h.r1 hl (by omega)
      have u1 := sz_ub D.ss1 l hl
      obtain ⟨h2, n2⟩ := strs_of_szl h.r2 u1 (by omega)
      have u2 := sz_ub D.ss2 _ u1
      obtain ⟨h3, n3⟩ := steps_of_szl h.r3 u2 hz
      exact ⟨⟨h1, h2, h3⟩, ⟨n1, n2, n3, h1.sb, h2.sb, h3.sb⟩⟩
theorem l_szDraft2 (D : PDraft) (B : Nat) (A1 A2 A3 : Option Addr) (c1 c2 c3 : Nat) (left : Int) (w : World) (hB : B ≤ w.heap.size) (hR : RawDraft w B A1 A2 A3 D) (h0 : -1 ≤ left) (h1 : left ≤ 1048576) :
    Calls Tryz.prog 44 #[.agg (draftV D A1 c1 A2 c2 A3 c3), .int .i64 left] w fun e w' => e = .returned (.int .i64 (szD D left)) ∧ Below w.heap.size w w' :=
  l_szDraft D B A1 A2 A3 c1 c2 c3 left w hB hR.r1 hR.r2 hR.r3 hR.n1 hR.n2 hR.n3 hR.z1 hR.z2 hR.z3 h0 h1
theorem cells_lcard3 : Tryz.prog.cellsOf 44 = 3 := by kernel_rfl
theorem cells_steps : Tryz.prog.cellsOf 45 = 1 := by kernel_rfl
theorem cells_sl : Tryz.prog.cellsOf 24 = 1 := by kernel_rfl
theorem cells_ldraft : Tryz.prog.cellsOf 47 = 7 := by kernel_rfl
theorem trod_card {H : Type} {enc : TypeId × Value → H} {W : World} {n : Nat} {c0 c1 c2 : Value} {x : DataW H × List MemPlace} (h : DataW.trod enc Tryz.prog W 0 (fun _ => true) true n 44 [c0, c1, c2] = some x) :
    ∃ (d f : Int) (A : Option Addr) (c : Nat) (ss : List ByteArray), c0 = .int .i64 d ∧ c1 = .int .i64 f ∧ c2 = .slice A ss.length c ∧ Reads W W.heap.size 1 A ss.length (ss.map Value.string) ∧ ss.length ≤ maxLen ∧ ∀ s ∈ ss, s.size ≤ maxLen := by
  obtain ⟨m0, y0, h0⟩ := trod_field Tryz.underlying44 h 0 _ rfl cells_int
  obtain ⟨m1, y1, h1⟩ := trod_field Tryz.underlying44 h 1 _ rfl cells_int
  obtain ⟨m2, y2, h2⟩ := trod_field Tryz.underlying44 h 2 _ rfl cells_sl
  obtain ⟨d, e0, _, _⟩ := DataW.trod_int Tryz.underlying3 h0
  obtain ⟨f, e1, _, _⟩ := DataW.trod_int Tryz.underlying3 h1
  obtain ⟨A, n, c, ss, e2, hR, hm, hs⟩ := reads_strings h2
  simp at e0 e1 e2
  have hl : ss.length = n := by have := hR.1; simpa using this
  subst hl
  exact ⟨d, f, A, c, ss, e0, e1, e2, hR, hm, hs⟩
theorem trod_steps {H : Type} {enc : TypeId × Value → H} {W : World} {n : Nat} {c0 : Value} {x : DataW H × List MemPlace} (h : DataW.trod enc Tryz.prog W 0 (fun _ => true) true n 45 [c0] = some x) :
    ∃ (A : Option Addr) (c : Nat) (l : List PStep), c0 = .slice A l.length c ∧ Reads W W.heap.size 7 A l.length (l.flatMap stepCells) ∧ l.length ≤ maxLen ∧ ∀ s ∈ l, s.b.size ≤ maxLen ∧ s.a.size ≤ maxLen := by
  obtain ⟨A, n, c, l, hcs, hR, hl, hm, hq⟩ := reads_rows (α := PStep) (f := stepCells) (Q := fun s => s.b.size ≤ maxLen ∧ s.a.size ≤ maxLen) stepCells_len (by omega) Tryz.underlying45 cells_lstep h (fun n cs' y hcl ht => by
    match cs', hcl with
    | [c0, c1, c2, c3, c4, c5, c6], _ =>
      obtain ⟨K, F, L, T, I, b, a, he, hb, ha⟩ := trod_step ht
      exact ⟨⟨K, F, L, T, I, b, a⟩, he, hb, ha⟩)
  subst hl
  simp at hcs
  exact ⟨A, c, l, hcs, hR, hm, hq⟩
end Go.Proofs.YtlimlolciekimaaGreatDoor
namespace Go.Proofs.YtlimlolciekimaaGreatDoor
open Go.ChangeShapes Go.WideShapes Go.ChangeAt Go.RowKit
set_option linter.unusedVariables false
set_option maxRecDepth 10000
set_option maxHeartbeats 800000 in
theorem equal_str (B : Nat) (A1 A2 : Option Addr) (n1 n2 c1 c2 : Nat) (ss ts : List ByteArray) (w : World) (h1 : Strs w B A1 n1 ss) (h2 : Strs w B A2 n2 ts) :
    Calls Tryz.prog 191 #[.slice A1 n1 c1, .slice A2 n2 c2] w fun e w' => e = .returned (.bool (eqSS ss ts)) ∧ ∃ m, w' = w.drewN m := by
  have hl1 := h1.len
  have hl2 := h2.len
  have hn1 := h1.nb
  have hn2 := h2.nb
  by_cases hn : n1 = n2
  · subst hn
    have HL1 := Lib.hid hl1
    have HL2 := Lib.hid hl2
    clear hl1 hl2
    go_enter Tryz.func191, Tryz.ntmps191
    go_wp2
    go_loopw [13] (fun i wr => ∃ j m : Nat, j ≤ n1 ∧ i = .int .i64 j ∧ wr = w.drewN m ∧ Hid (ss.take j = ts.take j)) (fun i _ => n1 - (intOf i).toNat)
    case atStart => exact ⟨0, 0, Nat.zero_le _, rfl, rfl, by unfold Hid; simp⟩
    case round =>
      obtain ⟨j, m, hj, rfl, rfl, HT⟩ := hrel
      by_cases hlt : j < n1
      · obtain ⟨hk1, ad1, rfl, hab1, hc1, _⟩ := h1.at_ hlt
        obtain ⟨hk2, ad2, rfl, hab2, hc2, _⟩ := h2.at_ hlt
        by_cases he : ss[j] = ts[j]
        · have HE := Lib.hid he
          have hbq := beq_toList_true he
          clear he
          go_wp2
          go_quiet (fail)
          go_wp2
          go_roundw
          case rel =>
            refine ⟨j + 1, _, by omega, by go_num, by first | rfl | exact World.drewN_drewN _ _ _, ?_⟩
            unfold Hid
            rw [List.take_succ_eq_append_getElem hk1, List.take_succ_eq_append_getElem hk2, HT.out, HE.out]
          case measure => simp [intOf]; omega
        · have HF : Hid (eqSS ss ts = false) := by
            unfold Hid eqSS
            rw [decide_eq_false_iff_not]
            intro h; subst h; exact he rfl
          have hbq := beq_toList_false he
          clear he
          go_wp2
          go_quiet (fail)
          go_wp2
          go_ret
          exact ⟨ret_bool HF.out.symm, by first | exact ⟨_, rfl⟩ | exact ⟨_, World.drewN_drewN _ _ _⟩⟩
      · have HF : Hid (eqSS ss ts = true) := by
          unfold Hid eqSS
          rw [decide_eq_true_iff]
          have h := HT.out
          rw [List.take_of_length_le (by have := HL1.out; omega), List.take_of_length_le (by have := HL2.out; omega)] at h
          exact h
        go_wp2
        go_ret
        exact ⟨ret_bool HF.out.symm, by first | exact ⟨_, rfl⟩ | exact ⟨_, World.drewN_drewN _ _ _⟩⟩
  · have HF : Hid (eqSS ss ts = false) := by
      unfold Hid eqSS
      rw [decide_eq_false_iff_not]
      intro h; subst h; omega
    clear hl1 hl2
    go_enter Tryz.func191, Tryz.ntmps191
    go_wp2
    go_ret
    exact ⟨ret_bool HF.out.symm, ⟨0, rfl⟩⟩
theorem blk_other3 {w : World} {g g2 : Nat} {o : Obj} (h : w.heap[g]? = some o) (hne : g ≠ g2) (a b c : Value) : (((w.setCell ⟨g2, 0, none⟩ a).setCell ⟨g2, 1, none⟩ b).setCell ⟨g2, 2, none⟩ c).heap[g]? = some o :=
  (Below.heap_setCell _ _ _ _ hne).trans ((Below.heap_setCell _ _ _ _ hne).trans ((Below.heap_setCell _ _ _ _ hne).trans h))
def sameCard (d f d2 f2 : Int) (ss ts : List ByteArray) : Bool := (d == d2) && ((f == f2) && eqSS ss ts)
set_option maxHeartbeats 800000 in
theorem i_SameCard (d f d2 f2 : Int) (B : Nat) (A A2 : Option Addr) (n c n2 c2 : Nat) (ss ts : List ByteArray) (w : World) (hS : Strs w B A n ss) (hT : Strs w B A2 n2 ts) (hB : B ≤ w.heap.size) :
    Calls Tryz.prog 135 #[.agg #[.int .i64 d, .int .i64 f, .slice A n c], .agg #[.int .i64 d2, .int .i64 f2, .slice A2 n2 c2]] w fun e w' => e = .returned (.bool (sameCard d f d2 f2 ss ts)) ∧ Below w.heap.size w w' := by
  have hn := hS.nb
  have hn2 := hT.nb
  have hS2 := (hS.alloc hB (.cells #[.int .i64 d, .int .i64 f, .slice A n c] 26)).alloc (by simp; omega) (.cells #[.int .i64 d2, .int .i64 f2, .slice A2 n2 c2] 26)
  have hT2 := (hT.alloc hB (.cells #[.int .i64 d, .int .i64 f, .slice A n c] 26)).alloc (by simp; omega) (.cells #[.int .i64 d2, .int .i64 f2, .slice A2 n2 c2] 26)
  have arm := fun (W : World) (h1 : Strs W B A n ss) (h2 : Strs W B A2 n2 ts) => equal_str B A A2 n n2 c c2 ss ts W h1 h2
  have ARM := hide arm
  clear arm
  unfold sameCard
  cases h3 : (d == d2)
  · go_enter Tryz.func135, Tryz.ntmps135
    go_wp2
    go_ret
    exact ⟨rfl, bel⟩
  · cases h4 : (f == f2)
    · go_enter Tryz.func135, Tryz.ntmps135
      go_wp2
      go_ret
      exact ⟨rfl, bel⟩
    · go_enter Tryz.func135, Tryz.ntmps135
      go_wp2_with (go_at_call 191; refine (unhide ARM _ hS2 hT2).mono ?_; rintro e w' ⟨rfl, m, rfl⟩)
      go_ret
      exact ⟨ret_bool (by simp), bel⟩
set_option maxHeartbeats 1600000 in
theorem s_SameCard (d f d2 f2 : Int) (B : Nat) (A A2 : Option Addr) (n c n2 c2 : Nat) (ss ts : List ByteArray) (w : World) (hS : Strs w B A n ss) (hT : Strs w B A2 n2 ts) (hB : B ≤ w.heap.size) :
    Calls Tryz.prog 29 #[.agg #[.int .i64 d, .int .i64 f, .slice A n c], .agg #[.int .i64 d2, .int .i64 f2, .slice A2 n2 c2]] w fun e w' => e = .returned (.bool (sameCard d f d2 f2 ss ts)) ∧ Below w.heap.size w w' := by
  have hn := hS.nb
  have hn2 := hT.nb
  have hS2 := (hS.alloc hB (.cells #[.int .i64 d, .int .i64 f, .slice A n c] 26)).alloc (by simp; omega) (.cells #[.int .i64 d2, .int .i64 f2, .slice A2 n2 c2] 26)
  have hT2 := (hT.alloc hB (.cells #[.int .i64 d, .int .i64 f, .slice A n c] 26)).alloc (by simp; omega) (.cells #[.int .i64 d2, .int .i64 f2, .slice A2 n2 c2] 26)
  have hl := hS.len
  have hl2 := hT.len
  have hnq : (n : Int) = n2 → ss.length = ts.length := fun h => by omega
  have hnn : ¬ (n : Int) = n2 → eqSS ss ts = false := fun h => by unfold eqSS; rw [decide_eq_false_iff_not]; intro h2; subst h2; omega
  have HNN := hide hnn
  have HL := Lib.hid hl
  have HL2 := Lib.hid hl2
  clear hl hl2 hnq hnn
  unfold sameCard
  cases h3 : (d == d2)
  · have e3 : (d != d2) = true := by simpa using h3
    go_enter Tryz.func29, Tryz.ntmps29
    go_wp2
    go_ret
    exact ⟨rfl, bel⟩
  · have e3 : (d != d2) = false := by simpa using h3
    cases h4 : (f == f2)
    · have e4 : (f != f2) = true := by simpa using h4
      go_enter Tryz.func29, Tryz.ntmps29
      go_wp2
      go_ret
      exact ⟨rfl, bel⟩
    · have e4 : (f != f2) = false := by simpa using h4
      cases h5 : ((n : Int) == (n2 : Int))
      · have HF := Lib.hid (unhide HNN (by simpa using h5))
        have e5 : ((n : Int) != (n2 : Int)) = true := by simpa using h5
        go_enter Tryz.func29, Tryz.ntmps29
        go_wp2
        go_ret
        exact ⟨ret_bool (by rw [HF.out]; rfl), bel⟩
      · have hni : (n : Int) = n2 := by simpa using h5
        have hnn : n = n2 := by omega
        clear hni
        subst hnn
        clear h5
        go_enter Tryz.func29, Tryz.ntmps29
        go_wp2
        go_loopw [5] (fun i wr => ∃ j m : Nat, j ≤ n ∧ i = .int .i64 j ∧ wr = ((w.alloc (.cells #[.int .i64 d, .int .i64 f, .slice A n c] 26)).alloc (.cells #[.int .i64 d2, .int .i64 f2, .slice A2 n c2] 26)).drewN m ∧ Hid (ss.take j = ts.take j)) (fun i _ => n - (intOf i).toNat)
        case atStart => exact ⟨0, 0, Nat.zero_le _, rfl, rfl, by unfold Hid; simp⟩
        case round =>
          obtain ⟨j, m, hj, rfl, rfl, HT⟩ := hrel
          by_cases hlt : j < n
          · obtain ⟨hk1, ad1, rfl, hab1, hc1, _⟩ := hS.at_ hlt
            obtain ⟨hk2, ad2, rfl, hab2, hc2, _⟩ := hT.at_ hlt
            have hcc1 : ∀ o p : Obj, ((w.alloc o).alloc p).cell? (ad1.add j) = some (.string ss[j]) := fun o p => by
              rw [World.cell?_alloc_lt _ _ _ (by rw [block_of_add]; simp; omega), World.cell?_alloc_lt _ _ _ (by rw [block_of_add]; omega)]; exact hc1
            have hcc2 : ∀ o p : Obj, ((w.alloc o).alloc p).cell? (ad2.add j) = some (.string ts[j]) := fun o p => by
              rw [World.cell?_alloc_lt _ _ _ (by rw [block_of_add]; simp; omega), World.cell?_alloc_lt _ _ _ (by rw [block_of_add]; omega)]; exact hc2
            by_cases he : ss[j] = ts[j]
            · have HE := Lib.hid he
              have hbq := beq_toList_true he
              clear he
              go_wp2
              go_quiet (fail)
              go_wp2
              go_roundw
              case rel =>
                refine ⟨j + 1, _, by omega, by go_num, by first | rfl | exact World.drewN_drewN _ _ _, ?_⟩
                unfold Hid
                rw [List.take_succ_eq_append_getElem hk1, List.take_succ_eq_append_getElem hk2, HT.out, HE.out]
              case measure => simp [intOf]; omega
            · have HF : Hid (eqSS ss ts = false) := by
                unfold Hid eqSS
                rw [decide_eq_false_iff_not]
                intro h; subst h; exact he rfl
              have hbq := beq_toList_false he
              clear he
              go_wp2
              go_quiet (fail)
              go_wp2
              go_ret
              exact ⟨ret_bool (by rw [HF.out]; rfl), bel⟩
          · have HF : Hid (eqSS ss ts = true) := by
              unfold Hid eqSS
              rw [decide_eq_true_iff]
              have h := HT.out
              rw [List.take_of_length_le (by have := HL.out; omega), List.take_of_length_le (by have := HL2.out; omega)] at h
              exact h
            go_wp2
            go_ret
            exact ⟨ret_bool (by rw [HF.out]; rfl), bel⟩
def runSteps (d f : Int) : List PStep → List ByteArray → Option (List ByteArray)
  | [], ss => some ss
  | s :: l, ss => if (stepRes true d f ss s.K s.F s.L s.T s.I s.b s.a).2 = true then runSteps d f l (stepRes true d f ss s.K s.F s.L s.T s.I s.b s.a).1 else none
def draftOk (D : PDraft) : Bool :=
  (cardOk D.d1 D.f1 D.ss1 && decide (D.st.length ≤ 40)) && match runSteps D.d1 D.f1 D.st D.ss1 with | some ss => sameCard D.d1 D.f1 D.d2 D.f2 ss D.ss2 | none => false
theorem runSteps_drop {d f : Int} {ss : List ByteArray} {l : List PStep} {k : Nat} (h : k < l.length) : runSteps d f (l.drop k) ss =
    if (stepRes true d f ss l[k].K l[k].F l[k].L l[k].T l[k].I l[k].b l[k].a).2 = true then runSteps d f (l.drop (k + 1)) (stepRes true d f ss l[k].K l[k].F l[k].L l[k].T l[k].I l[k].b l[k].a).1 else none := by
  rw [List.drop_eq_getElem_cons h]; rfl
theorem draftOk_no1 {D : PDraft} (h : cardOk D.d1 D.f1 D.ss1 = false) : draftOk D = false := by unfold draftOk; rw [h]; rfl
theorem draftOk_no2 {D : PDraft} (h : ¬ D.st.length ≤ 40) : draftOk D = false := by unfold draftOk; rw [decide_eq_false h]; simp
theorem draftOk_none {D : PDraft} (h : runSteps D.d1 D.f1 D.st D.ss1 = none) : draftOk D = false := by unfold draftOk; rw [h]; simp
theorem draftOk_some {D : PDraft} {ss : List ByteArray} (h1 : cardOk D.d1 D.f1 D.ss1 = true) (h2 : D.st.length ≤ 40) (h : runSteps D.d1 D.f1 D.st D.ss1 = some ss) : draftOk D = sameCard D.d1 D.f1 D.d2 D.f2 ss D.ss2 := by unfold draftOk; rw [h, h1, decide_eq_true h2]; rfl
set_option maxHeartbeats 6000000 in
theorem i_DraftOk (D : PDraft) (B : Nat) (A1 A2 A3 : Option Addr) (c1 c2 c3 : Nat) (w : World) (hS : RdDraft w B A1 A2 A3 D) (hB : B ≤ w.heap.size) :
    Calls Tryz.prog 82 #[.agg (draftV D A1 c1 A2 c2 A3 c3)] w fun e w' => e = .returned (.bool (draftOk D)) ∧ Below w.heap.size w w' := by
  obtain ⟨d1, f1, ss1, d2, f2, ss2, st⟩ := D
  obtain ⟨h1, h2, h3⟩ := hS
  simp only at h1 h2 h3
  have hp1 := draftOk_no1 (D := ⟨d1, f1, ss1, d2, f2, ss2, st⟩)
  have hp2 := draftOk_no2 (D := ⟨d1, f1, ss1, d2, f2, ss2, st⟩)
  have hp3 := draftOk_none (D := ⟨d1, f1, ss1, d2, f2, ss2, st⟩)
  have hp4 := fun ss => draftOk_some (D := ⟨d1, f1, ss1, d2, f2, ss2, st⟩) (ss := ss)
  simp only at hp1 hp2 hp3 hp4
  generalize hr : draftOk ⟨d1, f1, ss1, d2, f2, ss2, st⟩ = r at *
  clear hr
  unfold draftV
  simp only
  have hn1 := h1.nb
  have hn2 := h2.nb
  have hn3 := h3.nb
  cases hck : cardOk d1 f1 ss1
  · have HP := Lib.hid (hp1 hck)
    clear hp1 hp2 hp3 hp4
    go_enter Tryz.func82, Tryz.ntmps82
    go_wp2_with (first | (go_at_call 70; refine (i_CardOk _ _ _ _ _ ss1 _ ((h1.alloc hB (.cells #[.int .i64 d1, .int .i64 f1, .slice A1 ss1.length c1, .int .i64 d2, .int .i64 f2, .slice A2 ss2.length c2, .slice A3 st.length c3] 29)).more (by simp; omega))).mono ?_; rw [hck]; rintro e w1 ⟨rfl, hb1⟩; obtain ⟨hcb1, hfb1⟩ := bcell hb1; have hz_w1_0 : w.heap.size < w1.heap.size := (by have hzz := hb1.size; (try simp at hzz); omega); have hy_w1_0 := Nat.le_of_lt hz_w1_0))
    go_ret
    exact ⟨ret_bool HP.out.symm, bel⟩
  · by_cases h40 : st.length ≤ 40
    · have HP3 := hide hp3
      have HP4 := hide (hp4 · hck h40)
      clear hp1 hp2 hp3 hp4
      go_enter Tryz.func82, Tryz.ntmps82
      go_wp2_with (first | (go_at_call 70; refine (i_CardOk _ _ _ _ _ ss1 _ ((h1.alloc hB (.cells #[.int .i64 d1, .int .i64 f1, .slice A1 ss1.length c1, .int .i64 d2, .int .i64 f2, .slice A2 ss2.length c2, .slice A3 st.length c3] 29)).more (by simp; omega))).mono ?_; rw [hck]; rintro e w1 ⟨rfl, hb1⟩; obtain ⟨hcb1, hfb1⟩ := bcell hb1; have hz_w1_0 : w.heap.size < w1.heap.size := (by have hzz := hb1.size; (try simp at hzz); omega); have hy_w1_0 := Nat.le_of_lt hz_w1_0))
      have hkd := blk_next (blk_new w (.cells #[.int .i64 d1, .int .i64 f1, .slice A1 ss1.length c1, .int .i64 d2, .int .i64 f2, .slice A2 ss2.length c2, .slice A3 st.length c3] 29)) hb1
      have hw1s := hz_w1_0
      have hbW : Below w.heap.size w (w1.alloc (.cells #[.int .i64 d1, .int .i64 f1, .slice A1 ss1.length c1] 26)) := bel
      have hkn := blk_new w1 (.cells #[.int .i64 d1, .int .i64 f1, .slice A1 ss1.length c1] 26)
      have hkd2 := blk_alloc hkd (.cells #[.int .i64 d1, .int .i64 f1, .slice A1 ss1.length c1] 26)
      have hS0 : Strs (w1.alloc (.cells #[.int .i64 d1, .int .i64 f1, .slice A1 ss1.length c1] 26)) (w1.alloc (.cells #[.int .i64 d1, .int .i64 f1, .slice A1 ss1.length c1] 26)).heap.size A1 ss1.length ss1 := (((h1.alloc hB (.cells #[.int .i64 d1, .int .i64 f1, .slice A1 ss1.length c1, .int .i64 d2, .int .i64 f2, .slice A2 ss2.length c2, .slice A3 st.length c3] 29)).below (hb1.mono (by simp; omega))).alloc (by omega) (.cells #[.int .i64 d1, .int .i64 f1, .slice A1 ss1.length c1] 26)).more (by simp; omega)
      have hg4 : w1.heap.size < (w1.alloc (.cells #[.int .i64 d1, .int .i64 f1, .slice A1 ss1.length c1] 26)).heap.size := by simp
      generalize w1.alloc (.cells #[.int .i64 d1, .int .i64 f1, .slice A1 ss1.length c1] 26) = w5 at *
      have hwB : w.heap.size ≤ w5.heap.size := hbW.size
      go_loopw [23] (fun i wr => ∃ (k N : Nat) (A' : Option Addr) (c' : Nat) (sk : List ByteArray), k ≤ st.length ∧ N ≤ 16777216 ∧ i = .int .i64 k ∧ Hid (runSteps d1 f1 (st.drop k) sk = runSteps d1 f1 st ss1) ∧
          wr.heap[w1.heap.size]? = some (.cells #[.int .i64 d1, .int .i64 f1, .slice A' N c'] 26 (0, 0)) ∧ wr.heap[w.heap.size]? = some (.cells #[.int .i64 d1, .int .i64 f1, .slice A1 ss1.length c1, .int .i64 d2, .int .i64 f2, .slice A2 ss2.length c2, .slice A3 st.length c3] 29) ∧ Strs wr wr.heap.size A' N sk ∧ w5.heap.size ≤ wr.heap.size ∧ Below w.heap.size w wr) (fun i _ => st.length - (intOf i).toNat)
      case atStart => exact ⟨0, ss1.length, A1, c1, ss1, Nat.zero_le _, hn1, rfl, rfl, hkn, hkd2, hS0, Nat.le_refl _, hbW⟩
      case round =>
        obtain ⟨k, N, A', c', sk, hk, hN, rfl, HF, hblk, hkd3, hSk, hzw, hb⟩ := hrel
        obtain ⟨hx0, hx1, hx2, hxl⟩ := blk3 hblk
        obtain ⟨hd0, hd1, hd2, hd3, hd4, hd5, hd6, hdl⟩ := blk7 hkd3
        by_cases hlt : k < st.length
        · obtain ⟨hkl, ad, rfl, hab, hc0, hc1, hc2, hc3, hc4, hc5, hc6, hsb, hsa⟩ := (h3.below (hb.mono hB)).at_ hlt
          have hstep := runSteps_drop (d := d1) (f := f1) (ss := sk) (l := st) (k := k) hkl
          have HST := Lib.hid hstep
          clear hstep
          have hbo := stepRes_ok true d1 f1 sk st[k].K st[k].F st[k].L st[k].T st[k].I st[k].b st[k].a 16777216 (by have := hSk.len; omega) (by omega) hSk.sb hsb hsa
          have HBO := hide hbo
          clear hbo
          have hcon := fun (W : World) (h : Strs W wr.heap.size A' N sk) (hz : wr.heap.size ≤ W.heap.size) => i_StepOn d1 f1 wr.heap.size A' N c' sk st[k].K st[k].F st[k].L st[k].T st[k].I st[k].b st[k].a W h hz hsb hsa
          have HCON := hide hcon
          clear hcon hsb hsa
          generalize er : (stepRes true d1 f1 sk st[k].K st[k].F st[k].L st[k].T st[k].I st[k].b st[k].a).1 = sr at *
          generalize eb : (stepRes true d1 f1 sk st[k].K st[k].F st[k].L st[k].T st[k].I st[k].b st[k].a).2 = br at *
          clear er eb
          cases hbr : br
          · subst hbr
            have HP := Lib.hid (unhide HP3 (by rw [← HF.out, HST.out]; simp))
            go_wp2_with (first | (go_at_call 134; refine (unhide HCON _ (hSk.alloc (Nat.le_refl _) _) (by simp)).mono ?_; rintro e w7 ⟨A7, c7, rfl, ho7, hb7⟩; have hk7 := blk_next (blk_alloc hblk (.cells #[.int .i64 st[k].K, .int .i64 st[k].F, .int .i64 st[k].L, .int .i64 st[k].T, .int .i64 st[k].I, .string st[k].b, .string st[k].a] 167)) hb7; have hd7 := blk_next (blk_alloc hkd3 (.cells #[.int .i64 st[k].K, .int .i64 st[k].F, .int .i64 st[k].L, .int .i64 st[k].T, .int .i64 st[k].I, .string st[k].b, .string st[k].a] 167)) hb7; have hz7 := hb7.size; (try simp at hz7); obtain ⟨hv0, hv1, hv2, hvl⟩ := blk3 hk7; have hfv0 := (blk_cells hk7 0).2; have hfv1 := (blk_cells hk7 1).2; have hfv2 := (blk_cells hk7 2).2))
            go_ret
            exact ⟨ret_bool HP.out.symm, bel⟩
          · subst hbr
            have HF2 : Hid (runSteps d1 f1 (st.drop (k + 1)) sr = runSteps d1 f1 st ss1) := by unfold Hid; rw [← HF.out, HST.out]; simp
            go_wp2_with (first | (go_at_call 134; refine (unhide HCON _ (hSk.alloc (Nat.le_refl _) _) (by simp)).mono ?_; rintro e w7 ⟨A7, c7, rfl, ho7, hb7⟩; have hk7 := blk_next (blk_alloc hblk (.cells #[.int .i64 st[k].K, .int .i64 st[k].F, .int .i64 st[k].L, .int .i64 st[k].T, .int .i64 st[k].I, .string st[k].b, .string st[k].a] 167)) hb7; have hd7 := blk_next (blk_alloc hkd3 (.cells #[.int .i64 st[k].K, .int .i64 st[k].F, .int .i64 st[k].L, .int .i64 st[k].T, .int .i64 st[k].I, .string st[k].b, .string st[k].a] 167)) hb7; have hz7 := hb7.size; (try simp at hz7); obtain ⟨hv0, hv1, hv2, hvl⟩ := blk3 hk7; have hfv0 := (blk_cells hk7 0).2; have hfv1 := (blk_cells hk7 1).2; have hfv2 := (blk_cells hk7 2).2))
            have hS7 := strs_of_own ho7 (unhide HBO).1 (unhide HBO).2
            have hb7w : Below w.heap.size w w7 := bel
            have hSf : ∀ (u v x : Value) (o : Obj), Strs (((((w7.setCell ⟨w1.heap.size, 0, none⟩ u).setCell ⟨w1.heap.size, 1, none⟩ v).setCell ⟨w1.heap.size, 2, none⟩ x)).alloc o) ((((((w7.setCell ⟨w1.heap.size, 0, none⟩ u).setCell ⟨w1.heap.size, 1, none⟩ v).setCell ⟨w1.heap.size, 2, none⟩ x)).alloc o)).heap.size A7 sr.length sr := fun u v x o => strs_of_own ((own3_set ho7 hk7 (by decide) u v x).alloc o) (unhide HBO).1 (unhide HBO).2
            have HSF := hide hSf
            clear hSf
            go_roundw
            case rel => exact ⟨k + 1, sr.length, A7, c7, sr, by omega, (unhide HBO).1, by go_num, HF2, blk_alloc (blk3_set hk7 _ _ _) _, blk_alloc (blk_other3 hd7 (by omega) _ _ _) _, unhide HSF _ _ _ _, by simp [World.setCell]; omega, bel⟩
            case measure => simp [intOf]; omega
        · have hke : k = st.length := by omega
          have hd : st.drop k = [] := List.drop_eq_nil_of_le (by omega)
          have hfin : runSteps d1 f1 st ss1 = some sk := by rw [← HF.out, hd]; rfl
          have HP := Lib.hid (unhide HP4 _ hfin)
          clear hd hfin
          have hT2 := (h2.below (hb.mono hB)).more (by omega : B ≤ wr.heap.size)
          have hcon := i_SameCard d1 f1 d2 f2 wr.heap.size A' A2 N c' ss2.length c2 sk ss2
          have HCON := hide hcon
          clear hcon
          subst hke
          go_wp2_with (first | (go_at_call 135; refine (unhide HCON _ hSk hT2 (Nat.le_refl _)).mono ?_; rintro e w9 ⟨rfl, hb9⟩))
          go_ret
          exact ⟨ret_bool HP.out.symm, hb.trans (hb9.mono (by omega))⟩
    · have HP := Lib.hid (hp2 h40)
      clear hp1 hp2 hp3 hp4
      go_enter Tryz.func82, Tryz.ntmps82
      go_wp2_with (first | (go_at_call 70; refine (i_CardOk _ _ _ _ _ ss1 _ ((h1.alloc hB (.cells #[.int .i64 d1, .int .i64 f1, .slice A1 ss1.length c1, .int .i64 d2, .int .i64 f2, .slice A2 ss2.length c2, .slice A3 st.length c3] 29)).more (by simp; omega))).mono ?_; rw [hck]; rintro e w1 ⟨rfl, hb1⟩; obtain ⟨hcb1, hfb1⟩ := bcell hb1; have hz_w1_0 : w.heap.size < w1.heap.size := (by have hzz := hb1.size; (try simp at hzz); omega); have hy_w1_0 := Nat.le_of_lt hz_w1_0))
      go_ret
      exact ⟨ret_bool HP.out.symm, bel⟩
set_option maxHeartbeats 6000000 in
theorem s_DraftOk (D : PDraft) (B : Nat) (A1 A2 A3 : Option Addr) (c1 c2 c3 : Nat) (w : World) (hS : RdDraft w B A1 A2 A3 D) (hB : B ≤ w.heap.size) :
    Calls Tryz.prog 92 #[.agg (draftV D A1 c1 A2 c2 A3 c3)] w fun e w' => e = .returned (.bool (draftOk D)) ∧ Below w.heap.size w w' := by
  obtain ⟨d1, f1, ss1, d2, f2, ss2, st⟩ := D
  obtain ⟨h1, h2, h3⟩ := hS
  simp only at h1 h2 h3
  have hp1 := draftOk_no1 (D := ⟨d1, f1, ss1, d2, f2, ss2, st⟩)
  have hp2 := draftOk_no2 (D := ⟨d1, f1, ss1, d2, f2, ss2, st⟩)
  have hp3 := draftOk_none (D := ⟨d1, f1, ss1, d2, f2, ss2, st⟩)
  have hp4 := fun ss => draftOk_some (D := ⟨d1, f1, ss1, d2, f2, ss2, st⟩) (ss := ss)
  simp only at hp1 hp2 hp3 hp4
  generalize hr : draftOk ⟨d1, f1, ss1, d2, f2, ss2, st⟩ = r at *
  clear hr
  unfold draftV
  simp only
  have hn1 := h1.nb
  have hn2 := h2.nb
  have hn3 := h3.nb
  cases hck : cardOk d1 f1 ss1
  · have HP := Lib.hid (hp1 hck)
    clear hp1 hp2 hp3 hp4
    go_enter Tryz.func92, Tryz.ntmps92
    go_wp2_with (first | (go_at_call 97; refine (s_CardOk _ _ _ _ _ ss1 _ ((h1.alloc hB (.cells #[.int .i64 d1, .int .i64 f1, .slice A1 ss1.length c1, .int .i64 d2, .int .i64 f2, .slice A2 ss2.length c2, .slice A3 st.length c3] 29)).more (by simp; omega))).mono ?_; rw [hck]; rintro e w1 ⟨rfl, hb1⟩; obtain ⟨hcb1, hfb1⟩ := bcell hb1; have hz_w1_0 : w.heap.size < w1.heap.size := (by have hzz := hb1.size; (try simp at hzz); omega); have hy_w1_0 := Nat.le_of_lt hz_w1_0))
    go_ret
    exact ⟨ret_bool HP.out.symm, bel⟩
  · by_cases h40 : st.length ≤ 40
    · have HP3 := hide hp3
      have HP4 := hide (hp4 · hck h40)
      clear hp1 hp2 hp3 hp4
      go_enter Tryz.func92, Tryz.ntmps92
      go_wp2_with (first | (go_at_call 97; refine (s_CardOk _ _ _ _ _ ss1 _ ((h1.alloc hB (.cells #[.int .i64 d1, .int .i64 f1, .slice A1 ss1.length c1, .int .i64 d2, .int .i64 f2, .slice A2 ss2.length c2, .slice A3 st.length c3] 29)).more (by simp; omega))).mono ?_; rw [hck]; rintro e w1 ⟨rfl, hb1⟩; obtain ⟨hcb1, hfb1⟩ := bcell hb1; have hz_w1_0 : w.heap.size < w1.heap.size := (by have hzz := hb1.size; (try simp at hzz); omega); have hy_w1_0 := Nat.le_of_lt hz_w1_0))
      have hkd := blk_next (blk_new w (.cells #[.int .i64 d1, .int .i64 f1, .slice A1 ss1.length c1, .int .i64 d2, .int .i64 f2, .slice A2 ss2.length c2, .slice A3 st.length c3] 29)) hb1
      have hw1s := hz_w1_0
      have hbW : Below w.heap.size w (w1.alloc (.cells #[.int .i64 d1, .int .i64 f1, .slice A1 ss1.length c1] 26)) := bel
      have hkn := blk_new w1 (.cells #[.int .i64 d1, .int .i64 f1, .slice A1 ss1.length c1] 26)
      have hkd2 := blk_alloc hkd (.cells #[.int .i64 d1, .int .i64 f1, .slice A1 ss1.length c1] 26)
      have hS0 : Strs (w1.alloc (.cells #[.int .i64 d1, .int .i64 f1, .slice A1 ss1.length c1] 26)) (w1.alloc (.cells #[.int .i64 d1, .int .i64 f1, .slice A1 ss1.length c1] 26)).heap.size A1 ss1.length ss1 := (((h1.alloc hB (.cells #[.int .i64 d1, .int .i64 f1, .slice A1 ss1.length c1, .int .i64 d2, .int .i64 f2, .slice A2 ss2.length c2, .slice A3 st.length c3] 29)).below (hb1.mono (by simp; omega))).alloc (by omega) (.cells #[.int .i64 d1, .int .i64 f1, .slice A1 ss1.length c1] 26)).more (by simp; omega)
      have hg4 : w1.heap.size < (w1.alloc (.cells #[.int .i64 d1, .int .i64 f1, .slice A1 ss1.length c1] 26)).heap.size := by simp
      generalize w1.alloc (.cells #[.int .i64 d1, .int .i64 f1, .slice A1 ss1.length c1] 26) = w5 at *
      have hwB : w.heap.size ≤ w5.heap.size := hbW.size
      go_loopw [4] (fun i wr => ∃ (k N : Nat) (A' : Option Addr) (c' : Nat) (sk : List ByteArray), k ≤ st.length ∧ N ≤ 16777216 ∧ i = .int .i64 k ∧ Hid (runSteps d1 f1 (st.drop k) sk = runSteps d1 f1 st ss1) ∧
          wr.heap[w1.heap.size]? = some (.cells #[.int .i64 d1, .int .i64 f1, .slice A' N c'] 26 (0, 0)) ∧ wr.heap[w.heap.size]? = some (.cells #[.int .i64 d1, .int .i64 f1, .slice A1 ss1.length c1, .int .i64 d2, .int .i64 f2, .slice A2 ss2.length c2, .slice A3 st.length c3] 29) ∧ Strs wr wr.heap.size A' N sk ∧ w5.heap.size ≤ wr.heap.size ∧ Below w.heap.size w wr) (fun i _ => st.length - (intOf i).toNat)
      case atStart => exact ⟨0, ss1.length, A1, c1, ss1, Nat.zero_le _, hn1, rfl, rfl, hkn, hkd2, hS0, Nat.le_refl _, hbW⟩
      case round =>
        obtain ⟨k, N, A', c', sk, hk, hN, rfl, HF, hblk, hkd3, hSk, hzw, hb⟩ := hrel
        obtain ⟨hx0, hx1, hx2, hxl⟩ := blk3 hblk
        obtain ⟨hd0, hd1, hd2, hd3, hd4, hd5, hd6, hdl⟩ := blk7 hkd3
        by_cases hlt : k < st.length
        · obtain ⟨hkl, ad, rfl, hab, hc0, hc1, hc2, hc3, hc4, hc5, hc6, hsb, hsa⟩ := (h3.below (hb.mono hB)).at_ hlt
          have hstep := runSteps_drop (d := d1) (f := f1) (ss := sk) (l := st) (k := k) hkl
          have HST := Lib.hid hstep
          clear hstep
          have hbo := stepRes_ok true d1 f1 sk st[k].K st[k].F st[k].L st[k].T st[k].I st[k].b st[k].a 16777216 (by have := hSk.len; omega) (by omega) hSk.sb hsb hsa
          have HBO := hide hbo
          clear hbo
          have hcon := fun (W : World) (h : Strs W wr.heap.size A' N sk) (hz : wr.heap.size ≤ W.heap.size) => s_StepOn d1 f1 wr.heap.size A' N c' sk st[k].K st[k].F st[k].L st[k].T st[k].I st[k].b st[k].a W h hz hsb hsa
          have HCON := hide hcon
          clear hcon hsb hsa
          generalize er : (stepRes true d1 f1 sk st[k].K st[k].F st[k].L st[k].T st[k].I st[k].b st[k].a).1 = sr at *
          generalize eb : (stepRes true d1 f1 sk st[k].K st[k].F st[k].L st[k].T st[k].I st[k].b st[k].a).2 = br at *
          clear er eb
          cases hbr : br
          · subst hbr
            have HP := Lib.hid (unhide HP3 (by rw [← HF.out, HST.out]; simp))
            go_upto_region 7 with fail
            go_cut [5, 6] (fun s5 s6 wx => ∃ (g9 : Nat) (A7 : Option Addr) (c7 : Nat), s5 = .pointer (some ⟨g9, 0, none⟩) ∧ s6 = .bool false ∧ wx.heap[g9]? = some (.cells #[.int .i64 d1, .int .i64 f1, .slice A7 sr.length c7] 26 (0, 0)) ∧ wx.ownsRow wr.heap.size 9 1 (.slice A7 sr.length c7) sr.length (sr.map Value.string) ∧ wr.heap.size ≤ g9 ∧ Below wr.heap.size wr wx)
            case first =>
              have hq1 : (ad.add (k * 7)).block < wr.heap.size := by rw [block_of_add]; omega
              go_region_held3 (fun W => (∀ p : Addr, p.block < wr.heap.size → W.cell? p = (wr).cell? p) ∧ (∀ p : Addr, p.block < wr.heap.size → W.frozen? p = (wr).frozen? p) ∧ Below (wr.heap.size) (wr) W) (exact keep_ofP bel) ((go_at_call 147; have hq := (‹_ ∧ _ ∧ Below _ _ _›).2.2; refine (unhide HCON _ (hSk.below hq) hq.size).mono ?_; rintro e w7 ⟨A7, c7, rfl, ho7r, hb7⟩; (have ho7 := own_base (base' := wr.heap.size) ho7r (by first | exact hq.size | exact Nat.le_refl _)); clear ho7r; have hqs := hq.size; have hbs := hb7.size; (try simp at hqs); (try simp at hbs); obtain ⟨hcb7, hfb7⟩ := bcell hb7; (try (have hzl : wr.heap.size < w7.heap.size := (by omega)))))
              all_goals (go_wp2_with fail)
              all_goals (go_meet)
              all_goals (
                refine ⟨_, A7, c7, rfl, rfl, ?_, ?_, ?_, ?_⟩
                first
                  | exact blk_new _ _
                  | exact blk3_set (by first | exact blk_next (blk_new _ _) hb7 | exact blk_next (blk_drew (blk_new _ _)) hb7) _ _ _
                first
                  | exact ho7.alloc _
                  | exact own3_set ho7 (by first | exact blk_next (blk_new _ _) hb7 | exact blk_next (blk_drew (blk_new _ _)) hb7) (by decide) _ _ _
                first
                  | exact Nat.le_refl _
                  | omega
                exact bel)
            obtain ⟨g9, A7, c7, rfl, rfl, hk9, ho9, hg9, hb9⟩ := hcut
            obtain ⟨w7, hwc⟩ : ∃ W, W = wc := ⟨_, rfl⟩
            subst hwc
            have hk7 := blk_next hblk hb9
            have hd7 := blk_next hkd3 hb9
            have hz7 := hb9.size
            obtain ⟨hv0, hv1, hv2, hvl⟩ := blk3 hk7
            have hfv0 := (blk_cells hk7 0).2
            have hfv1 := (blk_cells hk7 1).2
            have hfv2 := (blk_cells hk7 2).2
            obtain ⟨hg0, hg1, hg2, hgl⟩ := blk3 hk9
            have hb7w : Below w.heap.size w w7 := hb.trans (hb9.mono (by omega))
            clear hx0 hx1 hx2 hxl hd0 hd1 hd2 hd3 hd4 hd5 hd6 hdl
            go_wp2
            go_ret
            exact ⟨ret_bool HP.out.symm, hb7w⟩
          · subst hbr
            have HF2 : Hid (runSteps d1 f1 (st.drop (k + 1)) sr = runSteps d1 f1 st ss1) := by unfold Hid; rw [← HF.out, HST.out]; simp
            go_upto_region 7 with fail
            go_cut [5, 6] (fun s5 s6 wx => ∃ (g9 : Nat) (A7 : Option Addr) (c7 : Nat), s5 = .pointer (some ⟨g9, 0, none⟩) ∧ s6 = .bool true ∧ wx.heap[g9]? = some (.cells #[.int .i64 d1, .int .i64 f1, .slice A7 sr.length c7] 26 (0, 0)) ∧ wx.ownsRow wr.heap.size 9 1 (.slice A7 sr.length c7) sr.length (sr.map Value.string) ∧ wr.heap.size ≤ g9 ∧ Below wr.heap.size wr wx)
            case first =>
              have hq1 : (ad.add (k * 7)).block < wr.heap.size := by rw [block_of_add]; omega
              go_region_held3 (fun W => (∀ p : Addr, p.block < wr.heap.size → W.cell? p = (wr).cell? p) ∧ (∀ p : Addr, p.block < wr.heap.size → W.frozen? p = (wr).frozen? p) ∧ Below (wr.heap.size) (wr) W) (exact keep_ofP bel) ((go_at_call 147; have hq := (‹_ ∧ _ ∧ Below _ _ _›).2.2; refine (unhide HCON _ (hSk.below hq) hq.size).mono ?_; rintro e w7 ⟨A7, c7, rfl, ho7r, hb7⟩; (have ho7 := own_base (base' := wr.heap.size) ho7r (by first | exact hq.size | exact Nat.le_refl _)); clear ho7r; have hqs := hq.size; have hbs := hb7.size; (try simp at hqs); (try simp at hbs); obtain ⟨hcb7, hfb7⟩ := bcell hb7; (try (have hzl : wr.heap.size < w7.heap.size := (by omega)))))
              all_goals (go_wp2_with fail)
              all_goals (go_meet)
              all_goals (
                refine ⟨_, A7, c7, rfl, rfl, ?_, ?_, ?_, ?_⟩
                first
                  | exact blk_new _ _
                  | exact blk3_set (by first | exact blk_next (blk_new _ _) hb7 | exact blk_next (blk_drew (blk_new _ _)) hb7) _ _ _
                first
                  | exact ho7.alloc _
                  | exact own3_set ho7 (by first | exact blk_next (blk_new _ _) hb7 | exact blk_next (blk_drew (blk_new _ _)) hb7) (by decide) _ _ _
                first
                  | exact Nat.le_refl _
                  | omega
                exact bel)
            obtain ⟨g9, A7, c7, rfl, rfl, hk9, ho9, hg9, hb9⟩ := hcut
            obtain ⟨w7, hwc⟩ : ∃ W, W = wc := ⟨_, rfl⟩
            subst hwc
            have hk7 := blk_next hblk hb9
            have hd7 := blk_next hkd3 hb9
            have hz7 := hb9.size
            obtain ⟨hv0, hv1, hv2, hvl⟩ := blk3 hk7
            have hfv0 := (blk_cells hk7 0).2
            have hfv1 := (blk_cells hk7 1).2
            have hfv2 := (blk_cells hk7 2).2
            obtain ⟨hg0, hg1, hg2, hgl⟩ := blk3 hk9
            have hb7w : Below w.heap.size w w7 := hb.trans (hb9.mono (by omega))
            clear hx0 hx1 hx2 hxl hd0 hd1 hd2 hd3 hd4 hd5 hd6 hdl
            go_wp2
            have hSf : ∀ (u v x : Value), Strs (((w7.setCell ⟨w1.heap.size, 0, none⟩ u).setCell ⟨w1.heap.size, 1, none⟩ v).setCell ⟨w1.heap.size, 2, none⟩ x) (((w7.setCell ⟨w1.heap.size, 0, none⟩ u).setCell ⟨w1.heap.size, 1, none⟩ v).setCell ⟨w1.heap.size, 2, none⟩ x).heap.size A7 sr.length sr := fun u v x => strs_of_own (own3_set ho9 hk7 (by decide) u v x) (unhide HBO).1 (unhide HBO).2
            have HSF := hide hSf
            clear hSf
            go_roundw
            case rel => exact ⟨k + 1, sr.length, A7, c7, sr, by omega, (unhide HBO).1, by go_num, HF2, blk3_set hk7 _ _ _, blk_other3 hd7 (by omega) _ _ _, unhide HSF _ _ _, by simp [World.setCell]; omega, bel⟩
            case measure => simp [intOf]; omega
        · have hke : k = st.length := by omega
          have hd : st.drop k = [] := List.drop_eq_nil_of_le (by omega)
          have hfin : runSteps d1 f1 st ss1 = some sk := by rw [← HF.out, hd]; rfl
          have HP := Lib.hid (unhide HP4 _ hfin)
          clear hd hfin
          have hT2 := (h2.below (hb.mono hB)).more (by omega : B ≤ wr.heap.size)
          have hcon := s_SameCard d1 f1 d2 f2 wr.heap.size A' A2 N c' ss2.length c2 sk ss2
          have HCON := hide hcon
          clear hcon
          subst hke
          go_wp2_with (first | (go_at_call 29; refine (unhide HCON _ hSk hT2 (Nat.le_refl _)).mono ?_; rintro e w9 ⟨rfl, hb9⟩))
          go_ret
          exact ⟨ret_bool HP.out.symm, hb.trans (hb9.mono (by omega))⟩
    · have HP := Lib.hid (hp2 h40)
      clear hp1 hp2 hp3 hp4
      go_enter Tryz.func92, Tryz.ntmps92
      go_wp2_with (first | (go_at_call 97; refine (s_CardOk _ _ _ _ _ ss1 _ ((h1.alloc hB (.cells #[.int .i64 d1, .int .i64 f1, .slice A1 ss1.length c1, .int .i64 d2, .int .i64 f2, .slice A2 ss2.length c2, .slice A3 st.length c3] 29)).more (by simp; omega))).mono ?_; rw [hck]; rintro e w1 ⟨rfl, hb1⟩; obtain ⟨hcb1, hfb1⟩ := bcell hb1; have hz_w1_0 : w.heap.size < w1.heap.size := (by have hzz := hb1.size; (try simp at hzz); omega); have hy_w1_0 := Nat.le_of_lt hz_w1_0))
      go_ret
      exact ⟨ret_bool HP.out.symm, bel⟩
end Go.Proofs.YtlimlolciekimaaGreatDoor
namespace Go.Proofs.YtlimlolciekimaaGreatDoor
open Go.ChangeShapes Go.WideShapes Go.ChangeAt Go.RowKit
set_option linter.unusedVariables false
set_option maxRecDepth 10000
theorem cnt_swap (c : UInt8) (p q : List UInt8) (a b : UInt8) : cnt c (p ++ [b, a] ++ q) = cnt c (p ++ [a, b] ++ q) := by
  unfold cnt
  simp only [List.count_append, List.count_cons, List.count_nil]
  omega
theorem split_at {l : List UInt8} {K : Nat} (h : K + 1 < l.length) : l = l.take K ++ [l[K], l[K + 1]] ++ l.drop (K + 2) := by
  have h1 : l.drop K = l[K] :: l.drop (K + 1) := List.drop_eq_getElem_cons (by omega)
  have h2 : l.drop (K + 1) = l[K + 1] :: l.drop (K + 2) := List.drop_eq_getElem_cons (by omega)
  conv => lhs; rw [← List.take_append_drop K l, h1, h2]
  simp
theorem swapL_split (p q : List UInt8) (a b : UInt8) (K : Nat) (hp : p.length = K) : swapL (p ++ [a, b] ++ q) (K + 1) = p ++ [b, a] ++ q := by
  subst hp
  unfold swapL
  have h1 : List.drop (p.length + 1) p = [] := List.drop_eq_nil_of_le (by omega)
  have h2 : List.drop (p.length + 1 + 1) p = [] := List.drop_eq_nil_of_le (by omega)
  have h3 : p.length + 1 + 1 - p.length = 2 := by omega
  simp [List.drop_append, h1, h2, h3]
theorem swap_data {c : UInt8} {s : ByteArray} {k : Int} (h : cornerB c s k = true) : ∃ (p q : List UInt8) (a b : UInt8), s.data.toList = p ++ [a, b] ++ q ∧ k = ((p.length + 1 : Nat) : Int) ∧ (swapB s k).data.toList = p ++ [b, a] ++ q ∧ a = c ∧ b ≠ a := by
  obtain ⟨L, K, rfl, hKL, hL⟩ := cornerB_pos h
  subst hKL
  have hl : s.data.toList.length = s.size := by simp
  have hsp := split_at (l := s.data.toList) (K := K) (by omega)
  have hpl : (s.data.toList.take K).length = K := by rw [List.length_take]; omega
  refine ⟨s.data.toList.take K, s.data.toList.drop (K + 2), s.data.toList[K]'(by omega), s.data.toList[K + 1]'(by omega), hsp, by rw [hpl], ?_, ?_, ?_⟩
  · unfold swapB
    simp only [Int.toNat_natCast]
    have := swapL_split (s.data.toList.take K) (s.data.toList.drop (K + 2)) (s.data.toList[K]'(by omega)) (s.data.toList[K + 1]'(by omega)) K hpl
    rw [← hsp] at this
    exact this
  · unfold cornerB at h
    simp only [Bool.and_eq_true, beq_iff_eq] at h
    have h2 := h.2
    rw [show ((K + 1 : Nat) : Int) - 1 = (K : Int) by omega, chr_get s K (by omega)] at h2
    exact h2
  · unfold cornerB cornerAny at h
    simp only [Bool.and_eq_true] at h
    have h2 := h.1.2.2
    rw [show ((K + 1 : Nat) : Int) - 1 = (K : Int) by omega, chr_get s K (by omega), chr_get s (K + 1) (by omega)] at h2
    have h3 : s[K] ≠ s[K + 1] := by simpa using h2
    exact fun e => h3 e.symm
theorem isStrip_swap (p q : List UInt8) (a b : UInt8) : isStrip (p ++ [b, a] ++ q) = isStrip (p ++ [a, b] ++ q) := by
  unfold isStrip
  rw [cnt_swap 100, cnt_swap 102]
  simp
theorem stripOf_swap {c : UInt8} {s : ByteArray} {k : Int} (h : cornerB c s k = true) (d f : Int) : stripOf d f (swapB s k) = stripOf d f s := by
  obtain ⟨p, q, a, b, h1, _, h2, _⟩ := swap_data h
  unfold stripOf downOf forwardOf
  rw [h1, h2, isStrip_swap, cnt_swap 100, cnt_swap 102]
def otherC (c : UInt8) : UInt8 := if c = 100 then 102 else 100
theorem cardOk_flips {c : UInt8} {d f at_ : Int} {ss : List ByteArray} {F m : Nat} (h : cardOk d f ss = true) (ha : allC c at_ ss F m = true) : cardOk d f (flips at_ ss F m) = true := by
  unfold cardOk at *
  simp only [Bool.and_eq_true] at *
  rw [flips_len]
  refine ⟨h.1, h.2.1, ?_⟩
  rw [List.all_eq_true] at *
  intro x hx
  obtain ⟨i, hi, rfl⟩ := List.getElem_of_mem hx
  have hi2 : i < ss.length := by rw [flips_len] at hi; exact hi
  simp only [flips, List.getElem_mapIdx]
  split
  · rename_i hr
    have hcr : cornerB c ss[i] at_ = true := by
      unfold allC at ha
      rw [List.all_eq_true] at ha
      refine ha _ ?_
      rw [List.mem_take_iff_getElem]
      exact ⟨i - F, by rw [List.length_drop]; omega, by simp [show F + (i - F) = i by omega]⟩
    rw [stripOf_swap hcr]
    exact h.2.2 _ (List.getElem_mem hi2)
  · exact h.2.2 _ (List.getElem_mem hi2)
end Go.Proofs.YtlimlolciekimaaGreatDoor
namespace Go.Proofs.YtlimlolciekimaaGreatDoor
open Go.ChangeShapes Go.WideShapes Go.ChangeAt Go.RowKit
set_option linter.unusedVariables false
set_option maxRecDepth 10000
def FreshDraftX (base : Nat) (d1 f1 : Int) (ss1 : List ByteArray) (d2 f2 : Int) (ss2 : List ByteArray) (st : List PStep) (w : World) (e : Ending) (w' : World) : Prop :=
  ∃ B1 e1 B2 e2 B3 e3, e = .returned (.agg #[.int .i64 d1, .int .i64 f1, .slice B1 ss1.length e1, .int .i64 d2, .int .i64 f2, .slice B2 ss2.length e2, .slice B3 st.length e3]) ∧ OwnDraft w' base B1 e1 B2 e2 B3 e3 ⟨d1, f1, ss1, d2, f2, ss2, st⟩ ∧ Below w.heap.size w w'
end Go.Proofs.YtlimlolciekimaaGreatDoor
namespace Go.Proofs.YtlimlolciekimaaGreatDoor
open Go.ChangeShapes Go.WideShapes Go.ChangeAt Go.RowKit
set_option linter.unusedVariables false
set_option maxRecDepth 10000
def doRes (D : PDraft) (s : PStep) : PDraft × Bool :=
  if (draftOk D = true ∧ D.st.length ≠ 40) ∧ (stepRes true D.d2 D.f2 D.ss2 s.K s.F s.L s.T s.I s.b s.a).2 = true then (⟨D.d1, D.f1, D.ss1, D.d2, D.f2, (stepRes true D.d2 D.f2 D.ss2 s.K s.F s.L s.T s.I s.b s.a).1, D.st ++ [s]⟩, true) else (D, false)
end Go.Proofs.YtlimlolciekimaaGreatDoor
namespace Go.Proofs.YtlimlolciekimaaGreatDoor
open Go.ChangeShapes Go.WideShapes Go.ChangeAt Go.RowKit
set_option linter.unusedVariables false
set_option maxRecDepth 10000
def undoRes (D : PDraft) : PDraft × Bool :=
  if draftOk D = true then match D.st.getLast? with | some s => (⟨D.d1, D.f1, D.ss1, D.d2, D.f2, (stepRes false D.d2 D.f2 D.ss2 s.K s.F s.L s.T s.I s.b s.a).1, D.st.dropLast⟩, true) | none => (D, false) else (D, false)
end Go.Proofs.YtlimlolciekimaaGreatDoor
