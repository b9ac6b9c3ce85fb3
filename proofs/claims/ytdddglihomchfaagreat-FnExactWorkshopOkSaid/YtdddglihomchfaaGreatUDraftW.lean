/- Drafts in the one form, where the slice of the steps may be cut (its capacity is any). -/
import Derived.Test.YtdddglihomchfaaGreatUDraft
namespace Go.Proofs.YtdddglihomchfaaGreat
open Go.ChangeShapes Go.WideShapes Go.ChangeAt Go.RowKit
set_option linter.unusedVariables false
set_option maxRecDepth 10000

/-- a draft of one's own in blocks of a range -/
structure OwnDW (w : World) (lo hi : Nat) (A1 : Option Addr) (c1 : Nat) (A2 : Option Addr) (c2 : Nat) (A3 : Option Addr) (c3 : Nat) (D : PDraft) : Prop where
  o1 : OwnS w lo hi A1 c1 D.ss1
  o2 : OwnS w lo hi A2 c2 D.ss2
  o3 : ∃ c0, OwnSt w lo hi A3 c0 D.st
  ne : ∀ k, (Value.slice A1 D.ss1.length c1).ownBlock = some k → (Value.slice A2 D.ss2.length c2).ownBlock ≠ some k
section
variable {lo hi lo' hi' : Nat} {w w' : World} {A1 A2 A3 : Option Addr} {c1 c2 c3 : Nat} {D : PDraft}
theorem OwnDW.within {l h : Nat} (ho : OwnDW w lo hi A1 c1 A2 c2 A3 c3 D) (hW : Within l h w w') (hd : hi ≤ l ∨ h ≤ lo) : OwnDW w' lo hi A1 c1 A2 c2 A3 c3 D := ⟨ho.o1.within hW hd, ho.o2.within hW hd, (ho.o3.elim fun c0 h3 => ⟨c0, h3.within hW hd⟩), ho.ne⟩
theorem OwnDW.below (ho : OwnDW w lo hi A1 c1 A2 c2 A3 c3 D) (hb : Below w.heap.size w w') : OwnDW w' lo hi A1 c1 A2 c2 A3 c3 D := ⟨ho.o1.below hb, ho.o2.below hb, (ho.o3.elim fun c0 h3 => ⟨c0, h3.below hb⟩), ho.ne⟩
theorem OwnDW.box {g : Nat} {cs : Array Value} {t : TypeId} {fr : Nat × Nat} (ho : OwnDW w lo hi A1 c1 A2 c2 A3 c3 D) (hk : w.heap[g]? = some (.cells cs t fr)) (ht : t ∉ rowTys) (hg : w.grownBy w' (some g)) : OwnDW w' lo hi A1 c1 A2 c2 A3 c3 D := ⟨ho.o1.box hk ht hg, ho.o2.box hk ht hg, (ho.o3.elim fun c0 h3 => ⟨c0, h3.box hk ht hg⟩), ho.ne⟩
theorem OwnDW.boxy (ho : OwnDW w lo hi A1 c1 A2 c2 A3 c3 D) (h : Boxy w w') : OwnDW w' lo hi A1 c1 A2 c2 A3 c3 D := ⟨ho.o1.boxy h, ho.o2.boxy h, (ho.o3.elim fun c0 h3 => ⟨c0, h3.boxy h⟩), ho.ne⟩
theorem OwnDW.drew (ho : OwnDW w lo hi A1 c1 A2 c2 A3 c3 D) : OwnDW w.drew lo hi A1 c1 A2 c2 A3 c3 D := ⟨ho.o1.drew, ho.o2.drew, (ho.o3.elim fun c0 h3 => ⟨c0, h3.drew⟩), ho.ne⟩
theorem OwnDW.alloc (ho : OwnDW w lo hi A1 c1 A2 c2 A3 c3 D) (o : Obj) : OwnDW (w.alloc o) lo hi A1 c1 A2 c2 A3 c3 D := ⟨ho.o1.alloc o, ho.o2.alloc o, (ho.o3.elim fun c0 h3 => ⟨c0, h3.alloc o⟩), ho.ne⟩
theorem OwnDW.wide (ho : OwnDW w lo hi A1 c1 A2 c2 A3 c3 D) (h1 : lo' ≤ lo) (h2 : hi ≤ hi') : OwnDW w lo' hi' A1 c1 A2 c2 A3 c3 D := ⟨ho.o1.wide h1 h2, ho.o2.wide h1 h2, (ho.o3.elim fun c0 h3 => ⟨c0, h3.wide h1 h2⟩), ho.ne⟩
theorem OwnDW.of (ho : OwnD w lo hi A1 c1 A2 c2 A3 c3 D) : OwnDW w lo hi A1 c1 A2 c2 A3 c3 D := ⟨ho.o1, ho.o2, ⟨c3, ho.o3⟩, ho.ne⟩
theorem OwnDW.rd (ho : OwnDW w lo hi A1 c1 A2 c2 A3 c3 D) (hD : OkDraft D 16777216) : RdDraft w w.heap.size A1 A2 A3 D := by
  obtain ⟨c0, h3⟩ := ho.o3
  exact ⟨ho.o1.rd hD.l1 hD.z1, ho.o2.rd hD.l2 hD.z2, ⟨Reads.of_own h3.row, hD.l3, hD.z3⟩⟩
end
def UDraftW (d1 f1 : Int) (ss1 : List ByteArray) (d2 f2 : Int) (ss2 : List ByteArray) (st : List PStep) (w : World) (e : Ending) (w' : World) : Prop :=
  ∃ B1 e1 B2 e2 B3 e3, e = .returned (.agg #[.int .i64 d1, .int .i64 f1, .slice B1 ss1.length e1, .int .i64 d2, .int .i64 f2, .slice B2 ss2.length e2, .slice B3 st.length e3]) ∧ OwnDW w' w.heap.size w'.heap.size B1 e1 B2 e2 B3 e3 ⟨d1, f1, ss1, d2, f2, ss2, st⟩ ∧ Below w.heap.size w w'
def UDraftWB (d1 f1 : Int) (ss1 : List ByteArray) (d2 f2 : Int) (ss2 : List ByteArray) (st : List PStep) (b : Bool) (w : World) (e : Ending) (w' : World) : Prop :=
  ∃ B1 e1 B2 e2 B3 e3, e = .returned (.tuple #[.agg #[.int .i64 d1, .int .i64 f1, .slice B1 ss1.length e1, .int .i64 d2, .int .i64 f2, .slice B2 ss2.length e2, .slice B3 st.length e3], .bool b]) ∧ OwnDW w' w.heap.size w'.heap.size B1 e1 B2 e2 B3 e3 ⟨d1, f1, ss1, d2, f2, ss2, st⟩ ∧ Below w.heap.size w w'
theorem u_toDraftW (d1 f1 : Int) (ss1 : List ByteArray) (d2 f2 : Int) (ss2 : List ByteArray) (st : List PStep) (B : Nat) (A1 A2 A3 : Option Addr) (c1 c2 c3 : Nat) (w : World) (hS : RdDraft w B A1 A2 A3 ⟨d1, f1, ss1, d2, f2, ss2, st⟩) (hB : B ≤ w.heap.size) :
    Calls Tryz.prog 66 #[.agg #[.int .i64 d1, .int .i64 f1, .slice A1 ss1.length c1, .int .i64 d2, .int .i64 f2, .slice A2 ss2.length c2, .slice A3 st.length c3]] w (UDraftW d1 f1 ss1 d2 f2 ss2 st w) :=
  (l_toDraft ⟨d1, f1, ss1, d2, f2, ss2, st⟩ B A1 A2 A3 c1 c2 c3 w hS hB).mono fun _ _ h => by
    obtain ⟨B1, e1, B2, e2, B3, e3, he, ho, hb⟩ := h
    exact ⟨B1, e1, B2, e2, B3, e3, he, OwnDW.of (OwnD.of ho (Nat.le_refl _)), hb⟩
theorem u_eqDraftW (d1 f1 : Int) (ss1 : List ByteArray) (d2 f2 : Int) (ss2 : List ByteArray) (st : List PStep) (A1 A2 A3 B1 B2 B3 : Option Addr) (c1 c2 c3 e1 e2 e3 : Nat) (lo1 hi1 lo2 hi2 : Nat) (w : World) (h1 : OwnDW w lo1 hi1 A1 c1 A2 c2 A3 c3 ⟨d1, f1, ss1, d2, f2, ss2, st⟩) (h2 : OwnDW w lo2 hi2 B1 e1 B2 e2 B3 e3 ⟨d1, f1, ss1, d2, f2, ss2, st⟩) (hok : OkDraft ⟨d1, f1, ss1, d2, f2, ss2, st⟩ 16777216) :
    Calls Tryz.prog 73 #[.agg #[.int .i64 d1, .int .i64 f1, .slice A1 ss1.length c1, .int .i64 d2, .int .i64 f2, .slice A2 ss2.length c2, .slice A3 st.length c3], .agg #[.int .i64 d1, .int .i64 f1, .slice B1 ss1.length e1, .int .i64 d2, .int .i64 f2, .slice B2 ss2.length e2, .slice B3 st.length e3]] w fun e w' => e = .returned (.bool true) ∧ Below w.heap.size w w' :=
  l_eqDraft_same ⟨d1, f1, ss1, d2, f2, ss2, st⟩ w.heap.size A1 A2 A3 B1 B2 B3 c1 c2 c3 e1 e2 e3 w (h1.rd hok) (h2.rd hok) (Nat.le_refl _)
/-- a draft of marks of one's own -/
structure MkDW (w : World) (lo hi : Nat) (A1 : Option Addr) (c1 n1 : Nat) (A2 : Option Addr) (c2 n2 : Nat) (A3 : Option Addr) (c3 n3 : Nat) (k : Int) : Prop where
  m1 : MkS w lo hi A1 c1 k n1
  m2 : MkS w lo hi A2 c2 (k + n1) n2
  m3 : ∃ c0, w.ownsRow lo 65 7 (.slice A3 n3 c0) n3 (marksStep (k + n1 + n2) n3)
section
variable {lo hi : Nat} {w w' : World} {A1 A2 A3 : Option Addr} {c1 c2 c3 n1 n2 n3 : Nat} {k : Int}
theorem MkDW.below (h : MkDW w lo hi A1 c1 n1 A2 c2 n2 A3 c3 n3 k) (hb : Below w.heap.size w w') : MkDW w' lo hi A1 c1 n1 A2 c2 n2 A3 c3 n3 k := ⟨h.m1.below hb, h.m2.below hb, h.m3.elim fun c0 h3 => ⟨c0, own_below h3 hb⟩⟩
theorem MkDW.alloc (h : MkDW w lo hi A1 c1 n1 A2 c2 n2 A3 c3 n3 k) (o : Obj) : MkDW (w.alloc o) lo hi A1 c1 n1 A2 c2 n2 A3 c3 n3 k := ⟨h.m1.alloc o, h.m2.alloc o, h.m3.elim fun c0 h3 => ⟨c0, h3.alloc _⟩⟩
end
set_option maxHeartbeats 1600000 in
theorem u_markDraftW (d1 f1 : Int) (ss1 : List ByteArray) (d2 f2 : Int) (ss2 : List ByteArray) (st : List PStep) (A1 A2 A3 : Option Addr) (c1 c2 c3 lo hi : Nat) (k : Int) (w : World) (h : OwnDW w lo hi A1 c1 A2 c2 A3 c3 ⟨d1, f1, ss1, d2, f2, ss2, st⟩) (hk0 : 0 ≤ k) (hk1 : k ≤ 4503599500000000) (hok : OkDraft ⟨d1, f1, ss1, d2, f2, ss2, st⟩ 16777216) :
    Calls Tryz.prog 82 #[.agg #[.int .i64 d1, .int .i64 f1, .slice A1 ss1.length c1, .int .i64 d2, .int .i64 f2, .slice A2 ss2.length c2, .slice A3 st.length c3], .int .i64 k] w fun e w' =>
      e = .returned (.int .i64 (k + ss1.length + ss2.length + 7 * (st.length : Int))) ∧ MkDW w' lo hi A1 c1 ss1.length A2 c2 ss2.length A3 c3 st.length k ∧ Within lo hi w w' := by
  obtain ⟨h1, h2, ⟨c0, h3⟩, hne⟩ := h
  simp only at h1 h2 h3 hne
  have hn1 : ss1.length ≤ 16777216 := hok.l1
  have hn2 : ss2.length ≤ 16777216 := hok.l2
  have hn3 : st.length ≤ 16777216 := hok.l3
  clear hok
  have lt1 := h1.row.lt
  have lt2 := h2.row.lt
  have lt3 := h3.row.lt
  have t1 := h1.top
  have t2 := h2.top
  have t3 := h3.top
  have ne13 := own_ne_type h1.row h3.row (by decide)
  have ne23 := own_ne_type h2.row h3.row (by decide)
  have LT1 := hide lt1
  have LT2 := hide lt2
  have LT3 := hide lt3
  have T1 := hide t1
  have T2 := hide t2
  have T3 := hide t3
  have NE := hide hne
  have NE13 := hide ne13
  have NE23 := hide ne23
  clear lt1 lt2 lt3 t1 t2 t3 hne ne13 ne23
  go_enter Tryz.func82, Tryz.ntmps82
  go_wp2_with fail
  have hk0_ := blk_new w (.cells #[.int .i64 d1, .int .i64 f1, .slice A1 ss1.length c1, .int .i64 d2, .int .i64 f2, .slice A2 ss2.length c2, .slice A3 st.length c3] 37)
  have a1 := h1.row.alloc (.cells #[.int .i64 d1, .int .i64 f1, .slice A1 ss1.length c1, .int .i64 d2, .int .i64 f2, .slice A2 ss2.length c2, .slice A3 st.length c3] 37)
  have a2 := h2.row.alloc (.cells #[.int .i64 d1, .int .i64 f1, .slice A1 ss1.length c1, .int .i64 d2, .int .i64 f2, .slice A2 ss2.length c2, .slice A3 st.length c3] 37)
  have a3 := h3.row.alloc (.cells #[.int .i64 d1, .int .i64 f1, .slice A1 ss1.length c1, .int .i64 d2, .int .i64 f2, .slice A2 ss2.length c2, .slice A3 st.length c3] 37)
  have hW0 : Within lo hi w (w.alloc (.cells #[.int .i64 d1, .int .i64 f1, .slice A1 ss1.length c1, .int .i64 d2, .int .i64 f2, .slice A2 ss2.length c2, .slice A3 st.length c3] 37)) := Within.of_below ((Below.refl _ _).alloc (Nat.le_refl _) _)
  clear h1 h2 h3
  refine (l_markCard lo _ _ _ _ _ _ k _ a1 hk0 (by omega) hn1).mono ?_
  rintro e w1 ⟨rfl, m1, hg1⟩
  have hk1_ := blk_markedk hk0_ hg1 a1 (by decide)
  have b2 := own_grown a2 hg1 (fun k hk he => unhide NE k he hk)
  have b3 := own_grown a3 hg1 (fun k hk he => unhide NE13 k he hk)
  have hW1 := hW0.trans (Within.of_grown a1 (by decide) hg1 (Nat.le_refl _) (unhide T1))
  clear hk0_ a2 a3 hW0 hg1 a1
  obtain ⟨hx0, hx1, hx2, hx3, hx4, hx5, hx6, hxl⟩ := blk7 hk1_
  go_wp2_with fail
  refine (l_markCard lo _ _ _ _ _ _ (k + ss1.length) _ b2 (by omega) (by omega) hn2).mono ?_
  rintro e w2 ⟨rfl, m2, hg2⟩
  clear hx0 hx1 hx2 hx3 hx4 hx5 hx6 hxl
  have hk2_ := blk_markedk hk1_ hg2 b2 (by decide)
  have n1 := own_grown m1 hg2 (fun k hk he => unhide NE k hk he)
  have c3_ := own_grown b3 hg2 (fun k hk he => unhide NE23 k he hk)
  have hW2 := hW1.trans (Within.of_grown b2 (by decide) hg2 (Nat.le_refl _) (unhide T2))
  clear hk1_ b2 b3 hW1 hg2 m1
  obtain ⟨hx0, hx1, hx2, hx3, hx4, hx5, hx6, hxl⟩ := blk7 hk2_
  go_wp2_with fail
  refine (l_markStepS lo _ _ _ _ _ (k + ss1.length + ss2.length) _ c3_ (by omega) (by omega) hn3).mono ?_
  rintro e w3 ⟨rfl, m3, hg3⟩
  clear hx0 hx1 hx2 hx3 hx4 hx5 hx6 hxl
  have n1' := own_grown n1 hg3 (fun k hk he => unhide NE13 k hk he)
  have n2' := own_grown m2 hg3 (fun k hk he => unhide NE23 k hk he)
  have hW3 := hW2.trans (Within.of_grown c3_ (by decide) hg3 (Nat.le_refl _) (unhide T3))
  clear hW2 hg3 n1 m2
  go_wp2
  go_ret
  exact ⟨rfl, ⟨⟨n1', unhide T1⟩, ⟨n2', unhide T2⟩, ⟨c0, m3⟩⟩, hW3⟩
set_option maxHeartbeats 1600000 in
theorem u_heldDraftW (d1 f1 d2 f2 : Int) (A1 A2 A3 : Option Addr) (c1 c2 c3 n1 n2 n3 lo hi : Nat) (k : Int) (w : World) (h : MkDW w lo hi A1 c1 n1 A2 c2 n2 A3 c3 n3 k) (hk0 : 0 ≤ k) (hk1 : k ≤ 4503599500000000) (hn1 : n1 ≤ 16777216) (hn2 : n2 ≤ 16777216) (hn3 : n3 ≤ 16777216) :
    Calls Tryz.prog 85 #[.agg #[.int .i64 d1, .int .i64 f1, .slice A1 n1 c1, .int .i64 d2, .int .i64 f2, .slice A2 n2 c2, .slice A3 n3 c3], .int .i64 k] w fun e w' =>
      e = .returned (.int .i64 (k + n1 + n2 + 7 * (n3 : Int))) ∧ Below w.heap.size w w' := by
  obtain ⟨h1, h2, ⟨c0, h3⟩⟩ := h
  go_enter Tryz.func85, Tryz.ntmps85
  go_wp2_with fail
  refine (u_heldCard _ _ _ _ n1 lo hi k _ (h1.alloc _) hk0 (by omega) hn1).mono ?_
  rintro e w1 ⟨rfl, hb1⟩
  obtain ⟨hcb1, hfb1⟩ := bcell hb1
  have hz_w1_0 : w.heap.size < w1.heap.size := (by have hzz := hb1.size; (try simp at hzz); omega); have hy_w1_0 := Nat.le_of_lt hz_w1_0
  have hbw1 : Below w.heap.size w w1 := (by repeat (first | (with_reducible exact Below.refl _ _) | (with_reducible assumption) | (with_reducible exact (‹_ ∧ _ ∧ Below _ _ _›).2.2) | (with_reducible refine below_drewN ?_ _) | (with_reducible refine Below.drew ?_) | ((with_reducible refine Below.alloc ?_ ?hsd _); (case hsd => (first | exact Nat.le_refl _ | (simp; done) | omega | (simp; omega) | exact (‹_ ∧ _ ∧ Below _ _ _›).2.2.size))) | ((with_reducible refine Below.setCell ?_ ?hsd _); (case hsd => (first | exact Nat.le_refl _ | (simp; done) | omega | (simp; omega) | exact (‹_ ∧ _ ∧ Below _ _ _›).2.2.size))) | ((with_reducible refine Below.trans ?_ (Below.mono (by with_reducible assumption) ?hsd)); (case hsd => (first | exact Nat.le_refl _ | (simp; done) | omega | (simp; omega) | exact (‹_ ∧ _ ∧ Below _ _ _›).2.2.size))) | exact Below.refl _ _ | assumption | exact (‹_ ∧ _ ∧ Below _ _ _›).2.2 | refine below_drewN ?_ _ | refine Below.drew ?_ | refine Below.alloc ?_ (by first | exact Nat.le_refl _ | (simp; done) | omega | (simp; omega) | exact (‹_ ∧ _ ∧ Below _ _ _›).2.2.size) _ | refine Below.setCell ?_ (by first | exact Nat.le_refl _ | (simp; done) | omega | (simp; omega) | exact (‹_ ∧ _ ∧ Below _ _ _›).2.2.size) _ | refine Below.trans ?_ (Below.mono (by assumption) (by first | exact Nat.le_refl _ | (simp; done) | omega | (simp; omega) | exact (‹_ ∧ _ ∧ Below _ _ _›).2.2.size))))
  go_wp2_with fail
  refine (u_heldCard _ _ _ _ n2 lo hi (k + n1) _ (h2.below hbw1) (by omega) (by omega) hn2).mono ?_
  rintro e w2 ⟨rfl, hb2⟩
  obtain ⟨hcb2, hfb2⟩ := bcell hb2
  have hs2 := hb2.size
  have hz20 : w.heap.size < w2.heap.size := by omega
  have hbw2 : Below w.heap.size w w2 := hbw1.trans (hb2.mono (by omega))
  go_wp2_with fail
  refine (l_heldStepS w2.heap.size A3 n3 c3 (k + n1 + n2) w2 (Reads.of_own (own_below h3 hbw2)) (Nat.le_refl _) (by omega) (by omega) hn3).mono ?_
  rintro e w3 ⟨rfl, hb3⟩
  go_wp2
  go_ret
  exact ⟨rfl, hbw2.trans (hb3.mono (by omega))⟩
end Go.Proofs.YtdddglihomchfaaGreat
