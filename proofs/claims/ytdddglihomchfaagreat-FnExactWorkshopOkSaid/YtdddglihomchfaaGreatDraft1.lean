/- Drafts in the laws: szStepS, szDraft, toDraft, eqDraft. -/
import Derived.Test.YtdddglihomchfaaGreatRowStep
namespace Go.Proofs.YtdddglihomchfaaGreat
open Go.ChangeShapes Go.WideShapes Go.ChangeAt Go.RowKit
set_option linter.unusedVariables false
set_option maxRecDepth 10000

def szSteps : List PStep → Int → Int
  | [], left => left
  | s :: l, left => if szStep s.b s.a left < 0 then -1 else szSteps l (szStep s.b s.a left)
def szStepL (l : List PStep) (left : Int) : Int := if left - l.length < 0 then -1 else szSteps l (left - l.length)
theorem szSteps_drop {l : List PStep} {j : Nat} (h : j < l.length) (q : Int) : szSteps (l.drop j) q = if szStep l[j].b l[j].a q < 0 then -1 else szSteps (l.drop (j + 1)) (szStep l[j].b l[j].a q) := by
  rw [List.drop_eq_getElem_cons h]; rfl
theorem szStep_ge (b a : ByteArray) (l : Int) : -1 ≤ szStep b a l := by unfold szStep; split <;> (first | omega | (split <;> omega))
theorem szSteps_ub (l : List PStep) : ∀ (q : Int), q ≤ 1048576 → szSteps l q ≤ 1048576 := by
  induction l with
  | nil => intro q h; exact h
  | cons s l ih => intro q h; simp only [szSteps]; split <;> (first | omega | exact ih _ (sz_ub_step _ _ _ h))
theorem szStepL_ub (l : List PStep) (q : Int) (h : q ≤ 1048576) : szStepL l q ≤ 1048576 := by
  unfold szStepL; split <;> (first | omega | exact szSteps_ub l _ (by omega))
theorem szSteps_mem (l : List PStep) : ∀ (q : Int), q ≤ 1048576 → 0 ≤ szSteps l q → ∀ s ∈ l, s.b.size ≤ 1048576 ∧ s.a.size ≤ 1048576 := by
  induction l with
  | nil => intro q _ _ s hs; cases hs
  | cons s l ih =>
    intro q hq h x hx
    simp only [szSteps] at h
    split at h
    · omega
    · rename_i h2
      rcases List.mem_cons.1 hx with rfl | hx
      · exact step_of_sz hq (by omega)
      · exact ih _ (sz_ub_step _ _ _ hq) h x hx
theorem steps_of_szl {W : World} {A : Option Addr} {n : Nat} {l : List PStep} {q : Int} (hR : Reads W W.heap.size 7 A n (l.flatMap stepCells)) (hq : q ≤ 1048576) (hz : 0 ≤ szStepL l q) : Steps W W.heap.size A n l ∧ n ≤ 1048576 := by
  have hl : l.length = n := by have := hR.1; rw [flat_len stepCells_len] at this; omega
  unfold szStepL at hz
  split at hz
  · omega
  · have hm := szSteps_mem l _ (by omega) hz
    exact ⟨⟨hR, by omega, fun s hs => by have := hm s hs; omega⟩, by omega⟩
set_option maxHeartbeats 1600000 in
theorem l_szStepS (B : Nat) (A : Option Addr) (n c : Nat) (l : List PStep) (left : Int) (w : World) (hR : Reads w B 7 A n (l.flatMap stepCells)) (hB : B ≤ w.heap.size) (hn : n ≤ 9223372036854775807) (hs : ∀ s ∈ l, s.b.size ≤ 9223372036854775807 ∧ s.a.size ≤ 9223372036854775807) (h0 : -1 ≤ left) (h1 : left ≤ 1048576) :
    Calls Tryz.prog 116 #[.slice A n c, .int .i64 left] w fun e w' => e = .returned (.int .i64 (szStepL l left)) ∧ Below w.heap.size w w' := by
  have hl : l.length = n := by have := hR.1; rw [flat_len stepCells_len] at this; omega
  by_cases hlt : left - n < 0
  · have HF : Hid (szStepL l left = -1) := by unfold Hid szStepL; rw [if_pos (by omega)]
    clear hl
    go_enter Tryz.func116, Tryz.ntmps116
    go_wp2
    go_ret
    exact ⟨ret_int HF.out.symm, (by repeat (first | (with_reducible exact Below.refl _ _) | (with_reducible assumption) | (with_reducible exact (‹_ ∧ _ ∧ Below _ _ _›).2.2) | (with_reducible refine below_drewN ?_ _) | (with_reducible refine Below.drew ?_) | ((with_reducible refine Below.alloc ?_ ?hsd _); (case hsd => (first | exact Nat.le_refl _ | (simp; done) | omega | (simp; omega) | exact (‹_ ∧ _ ∧ Below _ _ _›).2.2.size))) | ((with_reducible refine Below.setCell ?_ ?hsd _); (case hsd => (first | exact Nat.le_refl _ | (simp; done) | omega | (simp; omega) | exact (‹_ ∧ _ ∧ Below _ _ _›).2.2.size))) | ((with_reducible refine Below.trans ?_ (Below.mono (by with_reducible assumption) ?hsd)); (case hsd => (first | exact Nat.le_refl _ | (simp; done) | omega | (simp; omega) | exact (‹_ ∧ _ ∧ Below _ _ _›).2.2.size))) | exact Below.refl _ _ | assumption | exact (‹_ ∧ _ ∧ Below _ _ _›).2.2 | refine below_drewN ?_ _ | refine Below.drew ?_ | refine Below.alloc ?_ (by first | exact Nat.le_refl _ | (simp; done) | omega | (simp; omega) | exact (‹_ ∧ _ ∧ Below _ _ _›).2.2.size) _ | refine Below.setCell ?_ (by first | exact Nat.le_refl _ | (simp; done) | omega | (simp; omega) | exact (‹_ ∧ _ ∧ Below _ _ _›).2.2.size) _ | refine Below.trans ?_ (Below.mono (by assumption) (by first | exact Nat.le_refl _ | (simp; done) | omega | (simp; omega) | exact (‹_ ∧ _ ∧ Below _ _ _›).2.2.size))))⟩
  · have HF : Hid (szStepL l left = szSteps l (left - n)) := by unfold Hid szStepL; rw [if_neg (by omega), hl]
    have HL := Lib.hid hl
    have HS := hide hs
    clear hl hs
    go_enter Tryz.func116, Tryz.ntmps116
    go_wp2
    go_loopw [1, 5] (fun q i wr => ∃ (j : Nat) (x : Int), j ≤ n ∧ i = .int .i64 j ∧ q = .int .i64 x ∧ 0 ≤ x ∧ x ≤ 1048576 ∧ Hid (szSteps (l.drop j) x = szSteps l (left - n)) ∧ Below w.heap.size w wr) (fun _ i _ => n - (intOf i).toNat)
    case atStart => exact ⟨0, left - n, Nat.zero_le _, rfl, rfl, by omega, by omega, by unfold Hid; simp, Below.refl _ _⟩
    case round =>
      obtain ⟨j, x, hj, rfl, rfl, hx0, hx1, HX, hb⟩ := hrel
      have hzr := hb.size
      by_cases hjn : j < n
      · obtain ⟨hk1, ad, rfl, hab, hc0, hc1, hc2, hc3, hc4, hc5, hc6⟩ := stepCells_at (hR.below (hb.mono hB)) HL.out hjn
        have hsz := unhide HS _ (List.getElem_mem hk1)
        obtain ⟨hsz1, hsz2⟩ := hsz
        have HST := Lib.hid (szSteps_drop hk1 x)
        have hge := szStep_ge l[j].b l[j].a x
        have hub := sz_ub_step l[j].b l[j].a x (by omega)
        have hcon := fun (W : World) => l_szStep l[j].K l[j].F l[j].L l[j].T l[j].I l[j].b l[j].a x W hsz1 hsz2 (by omega) (by omega)
        have HCON := hide hcon
        clear hcon hsz1 hsz2
        generalize hy : szStep l[j].b l[j].a x = y at *
        clear hy
        by_cases hneg : y < 0
        · have HR : Hid (szSteps l (left - n) = -1) := by unfold Hid; rw [← HX.out, HST.out, if_pos hneg]
          go_wp2_with (first | (go_at_call 32; refine (unhide HCON _).mono ?_; rintro e w1 ⟨rfl, hb1⟩))
          go_ret
          exact ⟨ret_int (by rw [HF.out, HR.out]), (by repeat (first | (with_reducible exact Below.refl _ _) | (with_reducible assumption) | (with_reducible exact (‹_ ∧ _ ∧ Below _ _ _›).2.2) | (with_reducible refine below_drewN ?_ _) | (with_reducible refine Below.drew ?_) | ((with_reducible refine Below.alloc ?_ ?hsd _); (case hsd => (first | exact Nat.le_refl _ | (simp; done) | omega | (simp; omega) | exact (‹_ ∧ _ ∧ Below _ _ _›).2.2.size))) | ((with_reducible refine Below.setCell ?_ ?hsd _); (case hsd => (first | exact Nat.le_refl _ | (simp; done) | omega | (simp; omega) | exact (‹_ ∧ _ ∧ Below _ _ _›).2.2.size))) | ((with_reducible refine Below.trans ?_ (Below.mono (by with_reducible assumption) ?hsd)); (case hsd => (first | exact Nat.le_refl _ | (simp; done) | omega | (simp; omega) | exact (‹_ ∧ _ ∧ Below _ _ _›).2.2.size))) | exact Below.refl _ _ | assumption | exact (‹_ ∧ _ ∧ Below _ _ _›).2.2 | refine below_drewN ?_ _ | refine Below.drew ?_ | refine Below.alloc ?_ (by first | exact Nat.le_refl _ | (simp; done) | omega | (simp; omega) | exact (‹_ ∧ _ ∧ Below _ _ _›).2.2.size) _ | refine Below.setCell ?_ (by first | exact Nat.le_refl _ | (simp; done) | omega | (simp; omega) | exact (‹_ ∧ _ ∧ Below _ _ _›).2.2.size) _ | refine Below.trans ?_ (Below.mono (by assumption) (by first | exact Nat.le_refl _ | (simp; done) | omega | (simp; omega) | exact (‹_ ∧ _ ∧ Below _ _ _›).2.2.size))))⟩
        · have HR : Hid (szSteps (l.drop (j + 1)) y = szSteps l (left - n)) := by unfold Hid; rw [← HX.out, HST.out, if_neg hneg]
          go_wp2_with (first | (go_at_call 32; refine (unhide HCON _).mono ?_; rintro e w1 ⟨rfl, hb1⟩))
          go_roundw
          case rel => exact ⟨j + 1, y, by omega, by go_num, rfl, by omega, by omega, HR.out, (by repeat (first | (with_reducible exact Below.refl _ _) | (with_reducible assumption) | (with_reducible exact (‹_ ∧ _ ∧ Below _ _ _›).2.2) | (with_reducible refine below_drewN ?_ _) | (with_reducible refine Below.drew ?_) | ((with_reducible refine Below.alloc ?_ ?hsd _); (case hsd => (first | exact Nat.le_refl _ | (simp; done) | omega | (simp; omega) | exact (‹_ ∧ _ ∧ Below _ _ _›).2.2.size))) | ((with_reducible refine Below.setCell ?_ ?hsd _); (case hsd => (first | exact Nat.le_refl _ | (simp; done) | omega | (simp; omega) | exact (‹_ ∧ _ ∧ Below _ _ _›).2.2.size))) | ((with_reducible refine Below.trans ?_ (Below.mono (by with_reducible assumption) ?hsd)); (case hsd => (first | exact Nat.le_refl _ | (simp; done) | omega | (simp; omega) | exact (‹_ ∧ _ ∧ Below _ _ _›).2.2.size))) | exact Below.refl _ _ | assumption | exact (‹_ ∧ _ ∧ Below _ _ _›).2.2 | refine below_drewN ?_ _ | refine Below.drew ?_ | refine Below.alloc ?_ (by first | exact Nat.le_refl _ | (simp; done) | omega | (simp; omega) | exact (‹_ ∧ _ ∧ Below _ _ _›).2.2.size) _ | refine Below.setCell ?_ (by first | exact Nat.le_refl _ | (simp; done) | omega | (simp; omega) | exact (‹_ ∧ _ ∧ Below _ _ _›).2.2.size) _ | refine Below.trans ?_ (Below.mono (by assumption) (by first | exact Nat.le_refl _ | (simp; done) | omega | (simp; omega) | exact (‹_ ∧ _ ∧ Below _ _ _›).2.2.size))))⟩
          case measure => simp [intOf]; omega
      · have hjn' : j = n := by omega
        have hd : l.drop j = [] := List.drop_eq_nil_of_le (by have := HL.out; omega)
        have HR : Hid (szSteps l (left - n) = x) := by unfold Hid; rw [← HX.out, hd]; rfl
        subst hjn'
        clear hd
        go_wp2
        go_ret
        exact ⟨ret_int (by rw [HF.out, HR.out]), hb⟩

structure PDraft where
  (d1 f1 : Int)
  (ss1 : List ByteArray)
  (d2 f2 : Int)
  (ss2 : List ByteArray)
  (st : List PStep)
def szD (D : PDraft) (left : Int) : Int :=
  if szStrs D.ss1 left < 0 then -1 else if szStrs D.ss2 (szStrs D.ss1 left) < 0 then -1 else szStepL D.st (szStrs D.ss2 (szStrs D.ss1 left))
theorem szD_ub (D : PDraft) (l : Int) (h : l ≤ 1048576) : szD D l ≤ 1048576 := by
  unfold szD; split <;> (first | omega | (split <;> (first | omega | exact szStepL_ub _ _ (sz_ub _ _ (sz_ub _ _ h)))))
theorem szStrs_ge (ss : List ByteArray) (l : Int) : -1 ≤ szStrs ss l := by unfold szStrs; split <;> omega
theorem szStepL_ge (l : List PStep) (q : Int) (h : 0 ≤ q) : -1 ≤ szStepL l q := by
  have : ∀ (l : List PStep) (q : Int), 0 ≤ q → -1 ≤ szSteps l q := by
    intro l
    induction l with
    | nil => intro q h; simp only [szSteps]; omega
    | cons s l ih => intro q h; simp only [szSteps]; split <;> (first | omega | exact ih _ (by omega))
  unfold szStepL; split <;> (first | omega | exact this _ _ (by omega))
/-- how a draft's three rows read -/
structure RdDraft (w : World) (B : Nat) (A1 A2 A3 : Option Addr) (D : PDraft) : Prop where
  s1 : Strs w B A1 D.ss1.length D.ss1
  s2 : Strs w B A2 D.ss2.length D.ss2
  st : Steps w B A3 D.st.length D.st
section
variable {w w' : World} {B B' : Nat} {A1 A2 A3 : Option Addr} {D : PDraft}
theorem RdDraft.below (h : RdDraft w B A1 A2 A3 D) (hb : Below B w w') : RdDraft w' B A1 A2 A3 D := ⟨h.s1.below hb, h.s2.below hb, h.st.below hb⟩
theorem RdDraft.more (h : RdDraft w B A1 A2 A3 D) (hB : B ≤ B') : RdDraft w B' A1 A2 A3 D := ⟨h.s1.more hB, h.s2.more hB, h.st.more hB⟩
theorem RdDraft.alloc (h : RdDraft w B A1 A2 A3 D) (hB : B ≤ w.heap.size) (o : Obj) : RdDraft (w.alloc o) B A1 A2 A3 D := ⟨h.s1.alloc hB o, h.s2.alloc hB o, h.st.alloc hB o⟩
theorem RdDraft.drewN (h : RdDraft w B A1 A2 A3 D) (k : Nat) : RdDraft (w.drewN k) B A1 A2 A3 D := ⟨h.s1.drewN k, h.s2.drewN k, h.st.drewN k⟩
end
def draftV (D : PDraft) (A1 : Option Addr) (c1 : Nat) (A2 : Option Addr) (c2 : Nat) (A3 : Option Addr) (c3 : Nat) : Array Value :=
  #[.int .i64 D.d1, .int .i64 D.f1, .slice A1 D.ss1.length c1, .int .i64 D.d2, .int .i64 D.f2, .slice A2 D.ss2.length c2, .slice A3 D.st.length c3]
/-- a draft's three rows, of the call's own -/
structure OwnDraft (w : World) (base : Nat) (A1 : Option Addr) (c1 : Nat) (A2 : Option Addr) (c2 : Nat) (A3 : Option Addr) (c3 : Nat) (D : PDraft) : Prop where
  o1 : w.ownsRow base 9 1 (.slice A1 D.ss1.length c1) D.ss1.length (D.ss1.map Value.string)
  o2 : w.ownsRow base 9 1 (.slice A2 D.ss2.length c2) D.ss2.length (D.ss2.map Value.string)
  o3 : w.ownsRow base 65 7 (.slice A3 D.st.length c3) D.st.length (D.st.flatMap stepCells)
  ne : ∀ k, (Value.slice A1 D.ss1.length c1).ownBlock = some k → (Value.slice A2 D.ss2.length c2).ownBlock ≠ some k
/-- the rows' lengths are small -/
structure OkDraft (D : PDraft) (m : Nat) : Prop where
  l1 : D.ss1.length ≤ m
  l2 : D.ss2.length ≤ m
  l3 : D.st.length ≤ m
  z1 : ∀ s ∈ D.ss1, s.size ≤ 16777216
  z2 : ∀ s ∈ D.ss2, s.size ≤ 16777216
  z3 : ∀ s ∈ D.st, s.b.size ≤ 16777216 ∧ s.a.size ≤ 16777216
theorem OwnDraft.rd {w : World} {base : Nat} {A1 A2 A3 : Option Addr} {c1 c2 c3 : Nat} {D : PDraft} (h : OwnDraft w base A1 c1 A2 c2 A3 c3 D) (hD : OkDraft D 16777216) : RdDraft w w.heap.size A1 A2 A3 D :=
  ⟨strs_of_own h.o1 hD.l1 hD.z1, strs_of_own h.o2 hD.l2 hD.z2, ⟨Reads.of_own h.o3, hD.l3, hD.z3⟩⟩
theorem OwnDraft.below {w w' : World} {base : Nat} {A1 A2 A3 : Option Addr} {c1 c2 c3 : Nat} {D : PDraft} (h : OwnDraft w base A1 c1 A2 c2 A3 c3 D) (hb : Below w.heap.size w w') : OwnDraft w' base A1 c1 A2 c2 A3 c3 D :=
  ⟨own_below h.o1 hb, own_below h.o2 hb, own_below h.o3 hb, h.ne⟩
theorem OwnDraft.alloc {w : World} {base : Nat} {A1 A2 A3 : Option Addr} {c1 c2 c3 : Nat} {D : PDraft} (h : OwnDraft w base A1 c1 A2 c2 A3 c3 D) (o : Obj) : OwnDraft (w.alloc o) base A1 c1 A2 c2 A3 c3 D :=
  ⟨h.o1.alloc _, h.o2.alloc _, h.o3.alloc _, h.ne⟩
theorem OwnDraft.base_ {w : World} {base base' : Nat} {A1 A2 A3 : Option Addr} {c1 c2 c3 : Nat} {D : PDraft} (h : OwnDraft w base A1 c1 A2 c2 A3 c3 D) (hb : base' ≤ base) : OwnDraft w base' A1 c1 A2 c2 A3 c3 D :=
  ⟨own_base h.o1 hb, own_base h.o2 hb, own_base h.o3 hb, h.ne⟩
def FreshDraft (base : Nat) (D : PDraft) (w : World) (e : Ending) (w' : World) : Prop :=
  ∃ A1 c1 A2 c2 A3 c3, e = .returned (.agg (draftV D A1 c1 A2 c2 A3 c3)) ∧ OwnDraft w' base A1 c1 A2 c2 A3 c3 D ∧ Below w.heap.size w w'
set_option maxHeartbeats 1600000 in
theorem l_toDraft (D : PDraft) (B : Nat) (A1 A2 A3 : Option Addr) (c1 c2 c3 : Nat) (w : World) (hS : RdDraft w B A1 A2 A3 D) (hB : B ≤ w.heap.size) :
    Calls Tryz.prog 66 #[.agg (draftV D A1 c1 A2 c2 A3 c3)] w (FreshDraft w.heap.size D w) := by
  obtain ⟨d1, f1, ss1, d2, f2, ss2, st⟩ := D
  obtain ⟨h1, h2, h3⟩ := hS
  simp only at h1 h2 h3
  unfold draftV
  simp only
  have hn1 := h1.nb
  have hn2 := h2.nb
  have hn3 := h3.nb
  go_enter Tryz.func66, Tryz.ntmps66
  go_wp2_with fail
  refine (l_toCard d1 f1 B A1 _ c1 ss1 _ (((h1.alloc hB _).alloc (by simp; omega) _).alloc (by simp; omega) _) (by simp; omega)).mono ?_
  rintro e w1 ⟨B1, e1, rfl, ho1, hb1⟩
  obtain ⟨hcb1, hfb1⟩ := bcell hb1
  have hz_w1_0 : w.heap.size < w1.heap.size := (by have hzz := hb1.size; (try simp at hzz); omega); have hy_w1_0 := Nat.le_of_lt hz_w1_0; have hz_w1_1 : w.heap.size + 1 < w1.heap.size := (by have hzz := hb1.size; (try simp at hzz); omega); have hy_w1_1 := Nat.le_of_lt hz_w1_1; have hz_w1_2 : w.heap.size + 1 + 1 < w1.heap.size := (by have hzz := hb1.size; (try simp at hzz); omega); have hy_w1_2 := Nat.le_of_lt hz_w1_2
  have hbw1 : Below w.heap.size w w1 := (by repeat (first | (with_reducible exact Below.refl _ _) | (with_reducible assumption) | (with_reducible exact (‹_ ∧ _ ∧ Below _ _ _›).2.2) | (with_reducible refine below_drewN ?_ _) | (with_reducible refine Below.drew ?_) | ((with_reducible refine Below.alloc ?_ ?hsd _); (case hsd => (first | exact Nat.le_refl _ | (simp; done) | omega | (simp; omega) | exact (‹_ ∧ _ ∧ Below _ _ _›).2.2.size))) | ((with_reducible refine Below.setCell ?_ ?hsd _); (case hsd => (first | exact Nat.le_refl _ | (simp; done) | omega | (simp; omega) | exact (‹_ ∧ _ ∧ Below _ _ _›).2.2.size))) | ((with_reducible refine Below.trans ?_ (Below.mono (by with_reducible assumption) ?hsd)); (case hsd => (first | exact Nat.le_refl _ | (simp; done) | omega | (simp; omega) | exact (‹_ ∧ _ ∧ Below _ _ _›).2.2.size))) | exact Below.refl _ _ | assumption | exact (‹_ ∧ _ ∧ Below _ _ _›).2.2 | refine below_drewN ?_ _ | refine Below.drew ?_ | refine Below.alloc ?_ (by first | exact Nat.le_refl _ | (simp; done) | omega | (simp; omega) | exact (‹_ ∧ _ ∧ Below _ _ _›).2.2.size) _ | refine Below.setCell ?_ (by first | exact Nat.le_refl _ | (simp; done) | omega | (simp; omega) | exact (‹_ ∧ _ ∧ Below _ _ _›).2.2.size) _ | refine Below.trans ?_ (Below.mono (by assumption) (by first | exact Nat.le_refl _ | (simp; done) | omega | (simp; omega) | exact (‹_ ∧ _ ∧ Below _ _ _›).2.2.size))))
  go_wp2_with fail
  refine (l_toCard d2 f2 B A2 _ c2 ss2 _ (by exact h2.below (Below.mono (B := w.heap.size) (by repeat (first | (with_reducible exact Below.refl _ _) | (with_reducible assumption) | (with_reducible exact (‹_ ∧ _ ∧ Below _ _ _›).2.2) | (with_reducible refine below_drewN ?_ _) | (with_reducible refine Below.drew ?_) | ((with_reducible refine Below.alloc ?_ ?hsd _); (case hsd => (first | exact Nat.le_refl _ | (simp; done) | omega | (simp; omega) | exact (‹_ ∧ _ ∧ Below _ _ _›).2.2.size))) | ((with_reducible refine Below.setCell ?_ ?hsd _); (case hsd => (first | exact Nat.le_refl _ | (simp; done) | omega | (simp; omega) | exact (‹_ ∧ _ ∧ Below _ _ _›).2.2.size))) | ((with_reducible refine Below.trans ?_ (Below.mono (by with_reducible assumption) ?hsd)); (case hsd => (first | exact Nat.le_refl _ | (simp; done) | omega | (simp; omega) | exact (‹_ ∧ _ ∧ Below _ _ _›).2.2.size))) | exact Below.refl _ _ | assumption | exact (‹_ ∧ _ ∧ Below _ _ _›).2.2 | refine below_drewN ?_ _ | refine Below.drew ?_ | refine Below.alloc ?_ (by first | exact Nat.le_refl _ | (simp; done) | omega | (simp; omega) | exact (‹_ ∧ _ ∧ Below _ _ _›).2.2.size) _ | refine Below.setCell ?_ (by first | exact Nat.le_refl _ | (simp; done) | omega | (simp; omega) | exact (‹_ ∧ _ ∧ Below _ _ _›).2.2.size) _ | refine Below.trans ?_ (Below.mono (by assumption) (by first | exact Nat.le_refl _ | (simp; done) | omega | (simp; omega) | exact (‹_ ∧ _ ∧ Below _ _ _›).2.2.size)))) hB)) (by simp [World.setCell]; omega)).mono ?_
  rintro e w2 ⟨B2, e2, rfl, ho2, hb2⟩
  obtain ⟨hcb2, hfb2⟩ := bcell hb2
  have hs2 : w1.heap.size ≤ w2.heap.size := by have := hb2.size; simp [World.setCell] at this; exact this
  have hz20 : w.heap.size < w2.heap.size := by omega
  have hz21 : w.heap.size + 1 < w2.heap.size := by omega
  have hz22 : w.heap.size + 1 + 1 < w2.heap.size := by omega
  have hbw2 : Below w.heap.size w w2 := hbw1.trans ((((Below.refl w.heap.size w1).setCell (p := ⟨w.heap.size + 1 + 1, 0, none⟩) (by simp; try omega) _).setCell (p := ⟨w.heap.size + 1 + 1, 1, none⟩) (by simp; try omega) _).setCell (p := ⟨w.heap.size + 1 + 1, 2, none⟩) (by simp; try omega) _ |>.trans (hb2.mono (by simp [World.setCell]; omega)))
  go_wp2_with fail
  refine (l_toStepS B A3 _ c3 st _ (by exact h3.below (Below.mono (B := w.heap.size) (by repeat (first | (with_reducible exact Below.refl _ _) | (with_reducible assumption) | (with_reducible exact (‹_ ∧ _ ∧ Below _ _ _›).2.2) | (with_reducible refine below_drewN ?_ _) | (with_reducible refine Below.drew ?_) | ((with_reducible refine Below.alloc ?_ ?hsd _); (case hsd => (first | exact Nat.le_refl _ | (simp; done) | omega | (simp; omega) | exact (‹_ ∧ _ ∧ Below _ _ _›).2.2.size))) | ((with_reducible refine Below.setCell ?_ ?hsd _); (case hsd => (first | exact Nat.le_refl _ | (simp; done) | omega | (simp; omega) | exact (‹_ ∧ _ ∧ Below _ _ _›).2.2.size))) | ((with_reducible refine Below.trans ?_ (Below.mono (by with_reducible assumption) ?hsd)); (case hsd => (first | exact Nat.le_refl _ | (simp; done) | omega | (simp; omega) | exact (‹_ ∧ _ ∧ Below _ _ _›).2.2.size))) | exact Below.refl _ _ | assumption | exact (‹_ ∧ _ ∧ Below _ _ _›).2.2 | refine below_drewN ?_ _ | refine Below.drew ?_ | refine Below.alloc ?_ (by first | exact Nat.le_refl _ | (simp; done) | omega | (simp; omega) | exact (‹_ ∧ _ ∧ Below _ _ _›).2.2.size) _ | refine Below.setCell ?_ (by first | exact Nat.le_refl _ | (simp; done) | omega | (simp; omega) | exact (‹_ ∧ _ ∧ Below _ _ _›).2.2.size) _ | refine Below.trans ?_ (Below.mono (by assumption) (by first | exact Nat.le_refl _ | (simp; done) | omega | (simp; omega) | exact (‹_ ∧ _ ∧ Below _ _ _›).2.2.size)))) hB)) (by simp [World.setCell]; omega)).mono ?_
  rintro e w3 ⟨B3, e3, rfl, ho3, hb3⟩
  obtain ⟨hcb3, hfb3⟩ := bcell hb3
  have hs3 : w2.heap.size ≤ w3.heap.size := by have := hb3.size; simp [World.setCell] at this; exact this
  have hz30 : w.heap.size < w3.heap.size := by omega
  have hz31 : w.heap.size + 1 < w3.heap.size := by omega
  have hz32 : w.heap.size + 1 + 1 < w3.heap.size := by omega
  go_wp2
  refine bodyPost_ret (v := .agg #[.int .i64 d1, .int .i64 f1, .slice B1 ss1.length e1, .int .i64 d2, .int .i64 f2, .slice B2 ss2.length e2, .slice B3 st.length e3]) (by simp [results, Tryz.results66, go_sem, *]) rfl ?_
  have hbw3 : Below w.heap.size w w3 := hbw2.trans ((((Below.refl w.heap.size w2).setCell (p := ⟨w.heap.size + 1 + 1, 3, none⟩) (by simp; try omega) _).setCell (p := ⟨w.heap.size + 1 + 1, 4, none⟩) (by simp; try omega) _).setCell (p := ⟨w.heap.size + 1 + 1, 5, none⟩) (by simp; try omega) _ |>.trans (hb3.mono (by simp [World.setCell]; omega)))
  have HBW3 := hide hbw3
  clear hbw1 hbw2 hbw3
  have hne : ∀ k, (Value.slice B1 ss1.length e1).ownBlock = some k → (Value.slice B2 ss2.length e2).ownBlock ≠ some k := by
    intro k hk hk2
    have a := (ho1.lt k hk).2
    have b := (ho2.lt k hk2).1
    simp [World.setCell] at b
    omega
  refine ⟨B1, e1, B2, e2, B3, e3, rfl, ⟨own_up ho1 (by repeat (first | (with_reducible exact Upper.refl _ _) | (with_reducible refine Upper.drew ?_) | (with_reducible refine Upper.drewN ?_ _) | ((with_reducible refine Upper.setCell ?_ ?hsd _); (case hsd => (first | exact Nat.le_refl _ | (simp; done) | omega | (simp; omega) | exact (‹_ ∧ _ ∧ Below _ _ _›).2.2.size))) | (with_reducible refine Upper.alloc ?_ _) | (with_reducible refine Upper.below ?_ (by with_reducible assumption)) | exact Upper.refl _ _ | refine Upper.drew ?_ | refine Upper.drewN ?_ _ | refine Upper.setCell ?_ (by first | exact Nat.le_refl _ | (simp; done) | omega | (simp; omega) | exact (‹_ ∧ _ ∧ Below _ _ _›).2.2.size) _ | refine Upper.alloc ?_ _ | refine Upper.below ?_ (by assumption))) (by first | exact Nat.le_refl _ | (simp; done) | omega | (simp; omega) | exact (‹_ ∧ _ ∧ Below _ _ _›).2.2.size), own_up ho2 (by repeat (first | (with_reducible exact Upper.refl _ _) | (with_reducible refine Upper.drew ?_) | (with_reducible refine Upper.drewN ?_ _) | ((with_reducible refine Upper.setCell ?_ ?hsd _); (case hsd => (first | exact Nat.le_refl _ | (simp; done) | omega | (simp; omega) | exact (‹_ ∧ _ ∧ Below _ _ _›).2.2.size))) | (with_reducible refine Upper.alloc ?_ _) | (with_reducible refine Upper.below ?_ (by with_reducible assumption)) | exact Upper.refl _ _ | refine Upper.drew ?_ | refine Upper.drewN ?_ _ | refine Upper.setCell ?_ (by first | exact Nat.le_refl _ | (simp; done) | omega | (simp; omega) | exact (‹_ ∧ _ ∧ Below _ _ _›).2.2.size) _ | refine Upper.alloc ?_ _ | refine Upper.below ?_ (by assumption))) (by first | exact Nat.le_refl _ | (simp; done) | omega | (simp; omega) | exact (‹_ ∧ _ ∧ Below _ _ _›).2.2.size), own_up ho3 (by repeat (first | (with_reducible exact Upper.refl _ _) | (with_reducible refine Upper.drew ?_) | (with_reducible refine Upper.drewN ?_ _) | ((with_reducible refine Upper.setCell ?_ ?hsd _); (case hsd => (first | exact Nat.le_refl _ | (simp; done) | omega | (simp; omega) | exact (‹_ ∧ _ ∧ Below _ _ _›).2.2.size))) | (with_reducible refine Upper.alloc ?_ _) | (with_reducible refine Upper.below ?_ (by with_reducible assumption)) | exact Upper.refl _ _ | refine Upper.drew ?_ | refine Upper.drewN ?_ _ | refine Upper.setCell ?_ (by first | exact Nat.le_refl _ | (simp; done) | omega | (simp; omega) | exact (‹_ ∧ _ ∧ Below _ _ _›).2.2.size) _ | refine Upper.alloc ?_ _ | refine Upper.below ?_ (by assumption))) (by first | exact Nat.le_refl _ | (simp; done) | omega | (simp; omega) | exact (‹_ ∧ _ ∧ Below _ _ _›).2.2.size), hne⟩, ?_⟩
  have hbw3 := unhide HBW3
  clear hb1 hb2 hb3
  exact (by repeat (first | (with_reducible exact Below.refl _ _) | (with_reducible assumption) | (with_reducible exact (‹_ ∧ _ ∧ Below _ _ _›).2.2) | (with_reducible refine below_drewN ?_ _) | (with_reducible refine Below.drew ?_) | ((with_reducible refine Below.alloc ?_ ?hsd _); (case hsd => (first | exact Nat.le_refl _ | (simp; done) | omega | (simp; omega) | exact (‹_ ∧ _ ∧ Below _ _ _›).2.2.size))) | ((with_reducible refine Below.setCell ?_ ?hsd _); (case hsd => (first | exact Nat.le_refl _ | (simp; done) | omega | (simp; omega) | exact (‹_ ∧ _ ∧ Below _ _ _›).2.2.size))) | ((with_reducible refine Below.trans ?_ (Below.mono (by with_reducible assumption) ?hsd)); (case hsd => (first | exact Nat.le_refl _ | (simp; done) | omega | (simp; omega) | exact (‹_ ∧ _ ∧ Below _ _ _›).2.2.size))) | exact Below.refl _ _ | assumption | exact (‹_ ∧ _ ∧ Below _ _ _›).2.2 | refine below_drewN ?_ _ | refine Below.drew ?_ | refine Below.alloc ?_ (by first | exact Nat.le_refl _ | (simp; done) | omega | (simp; omega) | exact (‹_ ∧ _ ∧ Below _ _ _›).2.2.size) _ | refine Below.setCell ?_ (by first | exact Nat.le_refl _ | (simp; done) | omega | (simp; omega) | exact (‹_ ∧ _ ∧ Below _ _ _›).2.2.size) _ | refine Below.trans ?_ (Below.mono (by assumption) (by first | exact Nat.le_refl _ | (simp; done) | omega | (simp; omega) | exact (‹_ ∧ _ ∧ Below _ _ _›).2.2.size))))
set_option maxHeartbeats 1600000 in
theorem l_eqDraft_same (D : PDraft) (B : Nat) (A1 A2 A3 B1 B2 B3 : Option Addr) (c1 c2 c3 e1 e2 e3 : Nat) (w : World) (hS : RdDraft w B A1 A2 A3 D) (hT : RdDraft w B B1 B2 B3 D) (hB : B ≤ w.heap.size) :
    Calls Tryz.prog 73 #[.agg (draftV D A1 c1 A2 c2 A3 c3), .agg (draftV D B1 e1 B2 e2 B3 e3)] w fun e w' => e = .returned (.bool true) ∧ Below w.heap.size w w' := by
  obtain ⟨d1, f1, ss1, d2, f2, ss2, st⟩ := D
  obtain ⟨h1, h2, h3⟩ := hS
  obtain ⟨g1, g2, g3⟩ := hT
  simp only at h1 h2 h3 g1 g2 g3
  unfold draftV
  simp only
  have hn1 := h1.nb
  have hn2 := h2.nb
  have hn3 := h3.nb
  go_enter Tryz.func73, Tryz.ntmps73
  go_wp2_with fail
  refine (l_eqCard_args d1 f1 B _ _ _ _ _ _ ss1 _ ((h1.alloc hB _).alloc (by simp; omega) _) ((g1.alloc hB _).alloc (by simp; omega) _) (by simp; omega)).mono ?_
  rintro e w1 ⟨rfl, hb1⟩
  obtain ⟨hcb1, hfb1⟩ := bcell hb1
  have hz_w1_0 : w.heap.size < w1.heap.size := (by have hzz := hb1.size; (try simp at hzz); omega); have hy_w1_0 := Nat.le_of_lt hz_w1_0; have hz_w1_1 : w.heap.size + 1 < w1.heap.size := (by have hzz := hb1.size; (try simp at hzz); omega); have hy_w1_1 := Nat.le_of_lt hz_w1_1
  have hbw1 : Below w.heap.size w w1 := (by repeat (first | (with_reducible exact Below.refl _ _) | (with_reducible assumption) | (with_reducible exact (‹_ ∧ _ ∧ Below _ _ _›).2.2) | (with_reducible refine below_drewN ?_ _) | (with_reducible refine Below.drew ?_) | ((with_reducible refine Below.alloc ?_ ?hsd _); (case hsd => (first | exact Nat.le_refl _ | (simp; done) | omega | (simp; omega) | exact (‹_ ∧ _ ∧ Below _ _ _›).2.2.size))) | ((with_reducible refine Below.setCell ?_ ?hsd _); (case hsd => (first | exact Nat.le_refl _ | (simp; done) | omega | (simp; omega) | exact (‹_ ∧ _ ∧ Below _ _ _›).2.2.size))) | ((with_reducible refine Below.trans ?_ (Below.mono (by with_reducible assumption) ?hsd)); (case hsd => (first | exact Nat.le_refl _ | (simp; done) | omega | (simp; omega) | exact (‹_ ∧ _ ∧ Below _ _ _›).2.2.size))) | exact Below.refl _ _ | assumption | exact (‹_ ∧ _ ∧ Below _ _ _›).2.2 | refine below_drewN ?_ _ | refine Below.drew ?_ | refine Below.alloc ?_ (by first | exact Nat.le_refl _ | (simp; done) | omega | (simp; omega) | exact (‹_ ∧ _ ∧ Below _ _ _›).2.2.size) _ | refine Below.setCell ?_ (by first | exact Nat.le_refl _ | (simp; done) | omega | (simp; omega) | exact (‹_ ∧ _ ∧ Below _ _ _›).2.2.size) _ | refine Below.trans ?_ (Below.mono (by assumption) (by first | exact Nat.le_refl _ | (simp; done) | omega | (simp; omega) | exact (‹_ ∧ _ ∧ Below _ _ _›).2.2.size))))
  go_wp2_with fail
  refine (l_eqCard_args d2 f2 B _ _ _ _ _ _ ss2 _ (h2.below (hbw1.mono hB)) (g2.below (hbw1.mono hB)) (by omega)).mono ?_
  rintro e w2 ⟨rfl, hb2⟩
  obtain ⟨hcb2, hfb2⟩ := bcell hb2
  have hs2 := hb2.size
  have hz20 : w.heap.size < w2.heap.size := by omega
  have hz21 : w.heap.size + 1 < w2.heap.size := by omega
  have hbw2 : Below w.heap.size w w2 := hbw1.trans (hb2.mono (by omega))
  go_wp2_with fail
  refine (l_eqStepS_same B _ _ _ _ _ st _ (h3.below (hbw2.mono hB)) (g3.below (hbw2.mono hB)) (by omega)).mono ?_
  rintro e w3 ⟨rfl, hb3⟩
  go_wp2
  go_ret
  exact ⟨rfl, hbw2.trans (hb3.mono (by omega))⟩
theorem szDraft_n {D : PDraft} {left : Int} (h : szD D left < 0) : szD D left = -1 := by
  have h1 := szStrs_ge D.ss1 left
  unfold szD at h ⊢
  split
  · rfl
  · rename_i h2
    rw [if_neg h2] at h
    split
    · rfl
    · rename_i h3
      rw [if_neg h3] at h
      have := szStepL_ge D.st (szStrs D.ss2 (szStrs D.ss1 left)) (by omega)
      omega
set_option maxHeartbeats 3200000 in
theorem l_szDraft (D : PDraft) (B : Nat) (A1 A2 A3 : Option Addr) (c1 c2 c3 : Nat) (left : Int) (w : World) (hB : B ≤ w.heap.size) (hR1 : Reads w B 1 A1 D.ss1.length (D.ss1.map Value.string)) (hR2 : Reads w B 1 A2 D.ss2.length (D.ss2.map Value.string)) (hR3 : Reads w B 7 A3 D.st.length (D.st.flatMap stepCells))
    (hn1 : D.ss1.length ≤ 9223372036854775807) (hn2 : D.ss2.length ≤ 9223372036854775807) (hn3 : D.st.length ≤ 9223372036854775807) (hs1 : ∀ s ∈ D.ss1, s.size ≤ 9223372036854775807) (hs2 : ∀ s ∈ D.ss2, s.size ≤ 9223372036854775807) (hs3 : ∀ s ∈ D.st, s.b.size ≤ 9223372036854775807 ∧ s.a.size ≤ 9223372036854775807) (h0 : -1 ≤ left) (h1 : left ≤ 1048576) :
    Calls Tryz.prog 59 #[.agg (draftV D A1 c1 A2 c2 A3 c3), .int .i64 left] w fun e w' => e = .returned (.int .i64 (szD D left)) ∧ Below w.heap.size w w' := by
  obtain ⟨d1, f1, ss1, d2, f2, ss2, st⟩ := D
  simp only at hR1 hR2 hR3 hn1 hn2 hn3 hs1 hs2 hs3
  have HS1 := hide hs1
  have HS2 := hide hs2
  have HS3 := hide hs3
  clear hs1 hs2 hs3
  unfold szD draftV
  simp only
  have u1 := sz_ub ss1 left h1
  have g1 := szStrs_ge ss1 left
  have u2 := sz_ub ss2 (szStrs ss1 left) u1
  have g2 := szStrs_ge ss2 (szStrs ss1 left)
  have u3 := szStepL_ub st (szStrs ss2 (szStrs ss1 left)) u2
  have g3 := szStepL_ge st (szStrs ss2 (szStrs ss1 left))
  have hc1 := fun (W : World) (h : Below w.heap.size w W) => l_szCard d1 f1 B A1 ss1.length c1 ss1 left W (Nat.le_trans hB h.size) (hR1.below (h.mono hB)) hn1 (unhide HS1) h0 h1
  have hc2 := fun (W : World) (h : Below w.heap.size w W) => l_szCard d2 f2 B A2 ss2.length c2 ss2 (szStrs ss1 left) W (Nat.le_trans hB h.size) (hR2.below (h.mono hB)) hn2 (unhide HS2) g1 u1
  have hc3 := fun (W : World) (h : Below w.heap.size w W) => l_szStepS B A3 st.length c3 st (szStrs ss2 (szStrs ss1 left)) W (hR3.below (h.mono hB)) (Nat.le_trans hB h.size) hn3 (unhide HS3) g2 u2
  have HC1 := hide hc1
  have HC2 := hide hc2
  have HC3 := hide hc3
  clear hc1 hc2 hc3
  generalize eq3 : szStepL st (szStrs ss2 (szStrs ss1 left)) = q3 at *
  generalize eq2 : szStrs ss2 (szStrs ss1 left) = q2 at *
  generalize eq1 : szStrs ss1 left = q1 at *
  clear eq1 eq2 eq3 hR1 hR2 hR3
  by_cases n1 : q1 < 0
  · rw [if_pos n1]
    go_enter Tryz.func59, Tryz.ntmps59
    go_wp2_with fail
    refine (unhide HC1 _ (by exact (by repeat (first | (with_reducible exact Below.refl _ _) | (with_reducible assumption) | (with_reducible exact (‹_ ∧ _ ∧ Below _ _ _›).2.2) | (with_reducible refine below_drewN ?_ _) | (with_reducible refine Below.drew ?_) | ((with_reducible refine Below.alloc ?_ ?hsd _); (case hsd => (first | exact Nat.le_refl _ | (simp; done) | omega | (simp; omega) | exact (‹_ ∧ _ ∧ Below _ _ _›).2.2.size))) | ((with_reducible refine Below.setCell ?_ ?hsd _); (case hsd => (first | exact Nat.le_refl _ | (simp; done) | omega | (simp; omega) | exact (‹_ ∧ _ ∧ Below _ _ _›).2.2.size))) | ((with_reducible refine Below.trans ?_ (Below.mono (by with_reducible assumption) ?hsd)); (case hsd => (first | exact Nat.le_refl _ | (simp; done) | omega | (simp; omega) | exact (‹_ ∧ _ ∧ Below _ _ _›).2.2.size))) | exact Below.refl _ _ | assumption | exact (‹_ ∧ _ ∧ Below _ _ _›).2.2 | refine below_drewN ?_ _ | refine Below.drew ?_ | refine Below.alloc ?_ (by first | exact Nat.le_refl _ | (simp; done) | omega | (simp; omega) | exact (‹_ ∧ _ ∧ Below _ _ _›).2.2.size) _ | refine Below.setCell ?_ (by first | exact Nat.le_refl _ | (simp; done) | omega | (simp; omega) | exact (‹_ ∧ _ ∧ Below _ _ _›).2.2.size) _ | refine Below.trans ?_ (Below.mono (by assumption) (by first | exact Nat.le_refl _ | (simp; done) | omega | (simp; omega) | exact (‹_ ∧ _ ∧ Below _ _ _›).2.2.size)))))).mono ?_
    rintro e w1 ⟨rfl, hb1⟩
    go_wp2
    go_ret
    exact ⟨rfl, (by repeat (first | (with_reducible exact Below.refl _ _) | (with_reducible assumption) | (with_reducible exact (‹_ ∧ _ ∧ Below _ _ _›).2.2) | (with_reducible refine below_drewN ?_ _) | (with_reducible refine Below.drew ?_) | ((with_reducible refine Below.alloc ?_ ?hsd _); (case hsd => (first | exact Nat.le_refl _ | (simp; done) | omega | (simp; omega) | exact (‹_ ∧ _ ∧ Below _ _ _›).2.2.size))) | ((with_reducible refine Below.setCell ?_ ?hsd _); (case hsd => (first | exact Nat.le_refl _ | (simp; done) | omega | (simp; omega) | exact (‹_ ∧ _ ∧ Below _ _ _›).2.2.size))) | ((with_reducible refine Below.trans ?_ (Below.mono (by with_reducible assumption) ?hsd)); (case hsd => (first | exact Nat.le_refl _ | (simp; done) | omega | (simp; omega) | exact (‹_ ∧ _ ∧ Below _ _ _›).2.2.size))) | exact Below.refl _ _ | assumption | exact (‹_ ∧ _ ∧ Below _ _ _›).2.2 | refine below_drewN ?_ _ | refine Below.drew ?_ | refine Below.alloc ?_ (by first | exact Nat.le_refl _ | (simp; done) | omega | (simp; omega) | exact (‹_ ∧ _ ∧ Below _ _ _›).2.2.size) _ | refine Below.setCell ?_ (by first | exact Nat.le_refl _ | (simp; done) | omega | (simp; omega) | exact (‹_ ∧ _ ∧ Below _ _ _›).2.2.size) _ | refine Below.trans ?_ (Below.mono (by assumption) (by first | exact Nat.le_refl _ | (simp; done) | omega | (simp; omega) | exact (‹_ ∧ _ ∧ Below _ _ _›).2.2.size))))⟩
  · rw [if_neg n1]
    by_cases n2 : q2 < 0
    · rw [if_pos n2]
      go_enter Tryz.func59, Tryz.ntmps59
      go_wp2_with fail
      refine (unhide HC1 _ (by exact (by repeat (first | (with_reducible exact Below.refl _ _) | (with_reducible assumption) | (with_reducible exact (‹_ ∧ _ ∧ Below _ _ _›).2.2) | (with_reducible refine below_drewN ?_ _) | (with_reducible refine Below.drew ?_) | ((with_reducible refine Below.alloc ?_ ?hsd _); (case hsd => (first | exact Nat.le_refl _ | (simp; done) | omega | (simp; omega) | exact (‹_ ∧ _ ∧ Below _ _ _›).2.2.size))) | ((with_reducible refine Below.setCell ?_ ?hsd _); (case hsd => (first | exact Nat.le_refl _ | (simp; done) | omega | (simp; omega) | exact (‹_ ∧ _ ∧ Below _ _ _›).2.2.size))) | ((with_reducible refine Below.trans ?_ (Below.mono (by with_reducible assumption) ?hsd)); (case hsd => (first | exact Nat.le_refl _ | (simp; done) | omega | (simp; omega) | exact (‹_ ∧ _ ∧ Below _ _ _›).2.2.size))) | exact Below.refl _ _ | assumption | exact (‹_ ∧ _ ∧ Below _ _ _›).2.2 | refine below_drewN ?_ _ | refine Below.drew ?_ | refine Below.alloc ?_ (by first | exact Nat.le_refl _ | (simp; done) | omega | (simp; omega) | exact (‹_ ∧ _ ∧ Below _ _ _›).2.2.size) _ | refine Below.setCell ?_ (by first | exact Nat.le_refl _ | (simp; done) | omega | (simp; omega) | exact (‹_ ∧ _ ∧ Below _ _ _›).2.2.size) _ | refine Below.trans ?_ (Below.mono (by assumption) (by first | exact Nat.le_refl _ | (simp; done) | omega | (simp; omega) | exact (‹_ ∧ _ ∧ Below _ _ _›).2.2.size)))))).mono ?_
      rintro e w1 ⟨rfl, hb1⟩
      obtain ⟨hcb1, hfb1⟩ := bcell hb1
      have hz_w1_0 : w.heap.size < w1.heap.size := (by have hzz := hb1.size; (try simp at hzz); omega); have hy_w1_0 := Nat.le_of_lt hz_w1_0
      have hbw1 : Below w.heap.size w w1 := (by repeat (first | (with_reducible exact Below.refl _ _) | (with_reducible assumption) | (with_reducible exact (‹_ ∧ _ ∧ Below _ _ _›).2.2) | (with_reducible refine below_drewN ?_ _) | (with_reducible refine Below.drew ?_) | ((with_reducible refine Below.alloc ?_ ?hsd _); (case hsd => (first | exact Nat.le_refl _ | (simp; done) | omega | (simp; omega) | exact (‹_ ∧ _ ∧ Below _ _ _›).2.2.size))) | ((with_reducible refine Below.setCell ?_ ?hsd _); (case hsd => (first | exact Nat.le_refl _ | (simp; done) | omega | (simp; omega) | exact (‹_ ∧ _ ∧ Below _ _ _›).2.2.size))) | ((with_reducible refine Below.trans ?_ (Below.mono (by with_reducible assumption) ?hsd)); (case hsd => (first | exact Nat.le_refl _ | (simp; done) | omega | (simp; omega) | exact (‹_ ∧ _ ∧ Below _ _ _›).2.2.size))) | exact Below.refl _ _ | assumption | exact (‹_ ∧ _ ∧ Below _ _ _›).2.2 | refine below_drewN ?_ _ | refine Below.drew ?_ | refine Below.alloc ?_ (by first | exact Nat.le_refl _ | (simp; done) | omega | (simp; omega) | exact (‹_ ∧ _ ∧ Below _ _ _›).2.2.size) _ | refine Below.setCell ?_ (by first | exact Nat.le_refl _ | (simp; done) | omega | (simp; omega) | exact (‹_ ∧ _ ∧ Below _ _ _›).2.2.size) _ | refine Below.trans ?_ (Below.mono (by assumption) (by first | exact Nat.le_refl _ | (simp; done) | omega | (simp; omega) | exact (‹_ ∧ _ ∧ Below _ _ _›).2.2.size))))
      go_wp2_with fail
      refine (unhide HC2 _ (by exact (by repeat (first | (with_reducible exact Below.refl _ _) | (with_reducible assumption) | (with_reducible exact (‹_ ∧ _ ∧ Below _ _ _›).2.2) | (with_reducible refine below_drewN ?_ _) | (with_reducible refine Below.drew ?_) | ((with_reducible refine Below.alloc ?_ ?hsd _); (case hsd => (first | exact Nat.le_refl _ | (simp; done) | omega | (simp; omega) | exact (‹_ ∧ _ ∧ Below _ _ _›).2.2.size))) | ((with_reducible refine Below.setCell ?_ ?hsd _); (case hsd => (first | exact Nat.le_refl _ | (simp; done) | omega | (simp; omega) | exact (‹_ ∧ _ ∧ Below _ _ _›).2.2.size))) | ((with_reducible refine Below.trans ?_ (Below.mono (by with_reducible assumption) ?hsd)); (case hsd => (first | exact Nat.le_refl _ | (simp; done) | omega | (simp; omega) | exact (‹_ ∧ _ ∧ Below _ _ _›).2.2.size))) | exact Below.refl _ _ | assumption | exact (‹_ ∧ _ ∧ Below _ _ _›).2.2 | refine below_drewN ?_ _ | refine Below.drew ?_ | refine Below.alloc ?_ (by first | exact Nat.le_refl _ | (simp; done) | omega | (simp; omega) | exact (‹_ ∧ _ ∧ Below _ _ _›).2.2.size) _ | refine Below.setCell ?_ (by first | exact Nat.le_refl _ | (simp; done) | omega | (simp; omega) | exact (‹_ ∧ _ ∧ Below _ _ _›).2.2.size) _ | refine Below.trans ?_ (Below.mono (by assumption) (by first | exact Nat.le_refl _ | (simp; done) | omega | (simp; omega) | exact (‹_ ∧ _ ∧ Below _ _ _›).2.2.size)))))).mono ?_
      rintro e w2 ⟨rfl, hb2⟩
      go_wp2
      go_ret
      exact ⟨rfl, (by repeat (first | (with_reducible exact Below.refl _ _) | (with_reducible assumption) | (with_reducible exact (‹_ ∧ _ ∧ Below _ _ _›).2.2) | (with_reducible refine below_drewN ?_ _) | (with_reducible refine Below.drew ?_) | ((with_reducible refine Below.alloc ?_ ?hsd _); (case hsd => (first | exact Nat.le_refl _ | (simp; done) | omega | (simp; omega) | exact (‹_ ∧ _ ∧ Below _ _ _›).2.2.size))) | ((with_reducible refine Below.setCell ?_ ?hsd _); (case hsd => (first | exact Nat.le_refl _ | (simp; done) | omega | (simp; omega) | exact (‹_ ∧ _ ∧ Below _ _ _›).2.2.size))) | ((with_reducible refine Below.trans ?_ (Below.mono (by with_reducible assumption) ?hsd)); (case hsd => (first | exact Nat.le_refl _ | (simp; done) | omega | (simp; omega) | exact (‹_ ∧ _ ∧ Below _ _ _›).2.2.size))) | exact Below.refl _ _ | assumption | exact (‹_ ∧ _ ∧ Below _ _ _›).2.2 | refine below_drewN ?_ _ | refine Below.drew ?_ | refine Below.alloc ?_ (by first | exact Nat.le_refl _ | (simp; done) | omega | (simp; omega) | exact (‹_ ∧ _ ∧ Below _ _ _›).2.2.size) _ | refine Below.setCell ?_ (by first | exact Nat.le_refl _ | (simp; done) | omega | (simp; omega) | exact (‹_ ∧ _ ∧ Below _ _ _›).2.2.size) _ | refine Below.trans ?_ (Below.mono (by assumption) (by first | exact Nat.le_refl _ | (simp; done) | omega | (simp; omega) | exact (‹_ ∧ _ ∧ Below _ _ _›).2.2.size))))⟩
    · rw [if_neg n2]
      have hg3 := g3 (by omega)
      clear g3
      go_enter Tryz.func59, Tryz.ntmps59
      go_wp2_with fail
      refine (unhide HC1 _ (by exact (by repeat (first | (with_reducible exact Below.refl _ _) | (with_reducible assumption) | (with_reducible exact (‹_ ∧ _ ∧ Below _ _ _›).2.2) | (with_reducible refine below_drewN ?_ _) | (with_reducible refine Below.drew ?_) | ((with_reducible refine Below.alloc ?_ ?hsd _); (case hsd => (first | exact Nat.le_refl _ | (simp; done) | omega | (simp; omega) | exact (‹_ ∧ _ ∧ Below _ _ _›).2.2.size))) | ((with_reducible refine Below.setCell ?_ ?hsd _); (case hsd => (first | exact Nat.le_refl _ | (simp; done) | omega | (simp; omega) | exact (‹_ ∧ _ ∧ Below _ _ _›).2.2.size))) | ((with_reducible refine Below.trans ?_ (Below.mono (by with_reducible assumption) ?hsd)); (case hsd => (first | exact Nat.le_refl _ | (simp; done) | omega | (simp; omega) | exact (‹_ ∧ _ ∧ Below _ _ _›).2.2.size))) | exact Below.refl _ _ | assumption | exact (‹_ ∧ _ ∧ Below _ _ _›).2.2 | refine below_drewN ?_ _ | refine Below.drew ?_ | refine Below.alloc ?_ (by first | exact Nat.le_refl _ | (simp; done) | omega | (simp; omega) | exact (‹_ ∧ _ ∧ Below _ _ _›).2.2.size) _ | refine Below.setCell ?_ (by first | exact Nat.le_refl _ | (simp; done) | omega | (simp; omega) | exact (‹_ ∧ _ ∧ Below _ _ _›).2.2.size) _ | refine Below.trans ?_ (Below.mono (by assumption) (by first | exact Nat.le_refl _ | (simp; done) | omega | (simp; omega) | exact (‹_ ∧ _ ∧ Below _ _ _›).2.2.size)))))).mono ?_
      rintro e w1 ⟨rfl, hb1⟩
      obtain ⟨hcb1, hfb1⟩ := bcell hb1
      have hz_w1_0 : w.heap.size < w1.heap.size := (by have hzz := hb1.size; (try simp at hzz); omega); have hy_w1_0 := Nat.le_of_lt hz_w1_0
      have hbw1 : Below w.heap.size w w1 := (by repeat (first | (with_reducible exact Below.refl _ _) | (with_reducible assumption) | (with_reducible exact (‹_ ∧ _ ∧ Below _ _ _›).2.2) | (with_reducible refine below_drewN ?_ _) | (with_reducible refine Below.drew ?_) | ((with_reducible refine Below.alloc ?_ ?hsd _); (case hsd => (first | exact Nat.le_refl _ | (simp; done) | omega | (simp; omega) | exact (‹_ ∧ _ ∧ Below _ _ _›).2.2.size))) | ((with_reducible refine Below.setCell ?_ ?hsd _); (case hsd => (first | exact Nat.le_refl _ | (simp; done) | omega | (simp; omega) | exact (‹_ ∧ _ ∧ Below _ _ _›).2.2.size))) | ((with_reducible refine Below.trans ?_ (Below.mono (by with_reducible assumption) ?hsd)); (case hsd => (first | exact Nat.le_refl _ | (simp; done) | omega | (simp; omega) | exact (‹_ ∧ _ ∧ Below _ _ _›).2.2.size))) | exact Below.refl _ _ | assumption | exact (‹_ ∧ _ ∧ Below _ _ _›).2.2 | refine below_drewN ?_ _ | refine Below.drew ?_ | refine Below.alloc ?_ (by first | exact Nat.le_refl _ | (simp; done) | omega | (simp; omega) | exact (‹_ ∧ _ ∧ Below _ _ _›).2.2.size) _ | refine Below.setCell ?_ (by first | exact Nat.le_refl _ | (simp; done) | omega | (simp; omega) | exact (‹_ ∧ _ ∧ Below _ _ _›).2.2.size) _ | refine Below.trans ?_ (Below.mono (by assumption) (by first | exact Nat.le_refl _ | (simp; done) | omega | (simp; omega) | exact (‹_ ∧ _ ∧ Below _ _ _›).2.2.size))))
      go_wp2_with fail
      refine (unhide HC2 _ (by exact (by repeat (first | (with_reducible exact Below.refl _ _) | (with_reducible assumption) | (with_reducible exact (‹_ ∧ _ ∧ Below _ _ _›).2.2) | (with_reducible refine below_drewN ?_ _) | (with_reducible refine Below.drew ?_) | ((with_reducible refine Below.alloc ?_ ?hsd _); (case hsd => (first | exact Nat.le_refl _ | (simp; done) | omega | (simp; omega) | exact (‹_ ∧ _ ∧ Below _ _ _›).2.2.size))) | ((with_reducible refine Below.setCell ?_ ?hsd _); (case hsd => (first | exact Nat.le_refl _ | (simp; done) | omega | (simp; omega) | exact (‹_ ∧ _ ∧ Below _ _ _›).2.2.size))) | ((with_reducible refine Below.trans ?_ (Below.mono (by with_reducible assumption) ?hsd)); (case hsd => (first | exact Nat.le_refl _ | (simp; done) | omega | (simp; omega) | exact (‹_ ∧ _ ∧ Below _ _ _›).2.2.size))) | exact Below.refl _ _ | assumption | exact (‹_ ∧ _ ∧ Below _ _ _›).2.2 | refine below_drewN ?_ _ | refine Below.drew ?_ | refine Below.alloc ?_ (by first | exact Nat.le_refl _ | (simp; done) | omega | (simp; omega) | exact (‹_ ∧ _ ∧ Below _ _ _›).2.2.size) _ | refine Below.setCell ?_ (by first | exact Nat.le_refl _ | (simp; done) | omega | (simp; omega) | exact (‹_ ∧ _ ∧ Below _ _ _›).2.2.size) _ | refine Below.trans ?_ (Below.mono (by assumption) (by first | exact Nat.le_refl _ | (simp; done) | omega | (simp; omega) | exact (‹_ ∧ _ ∧ Below _ _ _›).2.2.size)))))).mono ?_
      rintro e w2 ⟨rfl, hb2⟩
      obtain ⟨hcb2, hfb2⟩ := bcell hb2
      have hs2 := hb2.size
      have hz20 : w.heap.size < w2.heap.size := by omega
      have hbw2 : Below w.heap.size w w2 := hbw1.trans (hb2.mono (by omega))
      go_wp2_with fail
      refine (unhide HC3 _ (by exact (by repeat (first | (with_reducible exact Below.refl _ _) | (with_reducible assumption) | (with_reducible exact (‹_ ∧ _ ∧ Below _ _ _›).2.2) | (with_reducible refine below_drewN ?_ _) | (with_reducible refine Below.drew ?_) | ((with_reducible refine Below.alloc ?_ ?hsd _); (case hsd => (first | exact Nat.le_refl _ | (simp; done) | omega | (simp; omega) | exact (‹_ ∧ _ ∧ Below _ _ _›).2.2.size))) | ((with_reducible refine Below.setCell ?_ ?hsd _); (case hsd => (first | exact Nat.le_refl _ | (simp; done) | omega | (simp; omega) | exact (‹_ ∧ _ ∧ Below _ _ _›).2.2.size))) | ((with_reducible refine Below.trans ?_ (Below.mono (by with_reducible assumption) ?hsd)); (case hsd => (first | exact Nat.le_refl _ | (simp; done) | omega | (simp; omega) | exact (‹_ ∧ _ ∧ Below _ _ _›).2.2.size))) | exact Below.refl _ _ | assumption | exact (‹_ ∧ _ ∧ Below _ _ _›).2.2 | refine below_drewN ?_ _ | refine Below.drew ?_ | refine Below.alloc ?_ (by first | exact Nat.le_refl _ | (simp; done) | omega | (simp; omega) | exact (‹_ ∧ _ ∧ Below _ _ _›).2.2.size) _ | refine Below.setCell ?_ (by first | exact Nat.le_refl _ | (simp; done) | omega | (simp; omega) | exact (‹_ ∧ _ ∧ Below _ _ _›).2.2.size) _ | refine Below.trans ?_ (Below.mono (by assumption) (by first | exact Nat.le_refl _ | (simp; done) | omega | (simp; omega) | exact (‹_ ∧ _ ∧ Below _ _ _›).2.2.size)))))).mono ?_
      rintro e w3 ⟨rfl, hb3⟩
      by_cases n3 : q3 < 0
      · have h3 : q3 = -1 := by omega
        have H3 := Lib.hid h3
        clear h3
        go_wp2
        go_ret
        exact ⟨ret_int (by rw [H3.out]), hbw2.trans (hb3.mono (by omega))⟩
      · go_wp2
        go_ret
        exact ⟨rfl, hbw2.trans (hb3.mono (by omega))⟩
end Go.Proofs.YtdddglihomchfaaGreat
