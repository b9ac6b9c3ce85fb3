/- Contracts of the program's and the reference's functions (UWork, Pap1, Pap2, Pap3, UWorkT, UWorkA). -/
import Derived.Deep.RegionLaw
import Derived.Test.YtlimlolciekimaaGreatDoorRows
import Derived.Test.YtlimlolciekimaaGreatDoorQFf
import Derived.Test.YtlimlolciekimaaGreatDoorQFi
import Derived.Test.YtlimlolciekimaaGreatDoorQFb
import Derived.Test.YtlimlolciekimaaGreatDoorQFa
import Derived.Test.YtlimlolciekimaaGreatDoorQFc
namespace Go.Proofs.YtlimlolciekimaaGreatDoor
open Go.ChangeShapes Go.WideShapes Go.ChangeAt Go.RowKit
set_option linter.unusedVariables false
set_option linter.unusedSimpArgs false
set_option maxRecDepth 10000
structure OwnP (w : World) (lo hi : Nat) (A : Option Addr) (c : Nat) (l : List PPaper) : Prop where
  row : w.ownsRow lo 105 3 (.slice A l.length c) l.length (l.flatMap paperCells)
  top : ∀ k, (Value.slice A l.length c).ownBlock = some k → k < hi
section
variable {lo hi lo' hi' : Nat} {w w' : World} {A : Option Addr} {c : Nat} {l : List PPaper}
theorem OwnP.within {a h : Nat} (ho : OwnP w lo hi A c l) (hW : Within a h w w') (hd : hi ≤ a ∨ h ≤ lo) : OwnP w' lo hi A c l :=
  ⟨own_within ho.row hW (fun k hk => by have h1 := ho.top k hk; have h2 := (ho.row.lt k hk).1; omega), ho.top⟩
theorem OwnP.below (ho : OwnP w lo hi A c l) (hb : Below w.heap.size w w') : OwnP w' lo hi A c l := ⟨own_below ho.row hb, ho.top⟩
theorem OwnP.boxy (ho : OwnP w lo hi A c l) (h : Boxy w w') : OwnP w' lo hi A c l := ⟨own_boxy ho.row (by decide) h, ho.top⟩
theorem OwnP.alloc (ho : OwnP w lo hi A c l) (o : Obj) : OwnP (w.alloc o) lo hi A c l := ⟨ho.row.alloc _, ho.top⟩
theorem OwnP.of (ho : w.ownsRow lo 105 3 (.slice A l.length c) l.length (l.flatMap paperCells)) (h : w.heap.size ≤ hi) : OwnP w lo hi A c l := ⟨ho, fun k hk => by have := (ho.lt k hk).2; omega⟩
theorem OwnP.rd (ho : OwnP w lo hi A c l) (hn : l.length ≤ 16777216) : Papers w w.heap.size A l.length l := ⟨Reads.of_own ho.row, hn⟩
end
structure OkWork (D : PDraft) (P : List PItem) (pp : List PPaper) (m : Nat) : Prop where
  d : OkDraft D m
  i : OkItems P m
  p : pp.length ≤ m
theorem OkWork.more {D : PDraft} {P : List PItem} {pp : List PPaper} {m k : Nat} (h : OkWork D P pp m) (hk : m ≤ k) : OkWork D P pp k := ⟨h.d.more hk, h.i.more hk, by have := h.p; omega⟩
structure RdWork0 (w : World) (B : Nat) (A1 A2 A3 A4 A5 : Option Addr) (D : PDraft) (P : List PItem) (pp : List PPaper) : Prop where
  d : RdDraft w B A1 A2 A3 D
  i : ∃ L, plI L = P ∧ Items w B A4 P.length L
  p : Papers w B A5 pp.length pp
theorem RdWork0.below {w w' : World} {B : Nat} {A1 A2 A3 A4 A5 : Option Addr} {D : PDraft} {P : List PItem} {pp : List PPaper} (h : RdWork0 w B A1 A2 A3 A4 A5 D P pp) (hb : Below B w w') : RdWork0 w' B A1 A2 A3 A4 A5 D P pp := ⟨h.d.below hb, h.i.elim fun L q => ⟨L, q.1, q.2.below hb⟩, h.p.below hb⟩
structure RdWork (w : World) (B : Nat) (A1 A2 A3 A4 : Option Addr) (c4 : Nat) (A5 : Option Addr) (D : PDraft) (P : List PItem) (pp : List PPaper) : Prop where
  d : RdDraft w B A1 A2 A3 D
  i : ∃ L, plI L = P ∧ Items w B A4 P.length L
  p : Papers w B A5 pp.length pp
  cap : P.length ≤ c4 ∧ c4 ≤ 9223372036854775807 ∧ (A4 = none → c4 = 0)
section
variable {w w' : World} {B B' : Nat} {A1 A2 A3 A4 A5 : Option Addr} {c4 : Nat} {D : PDraft} {P : List PItem} {pp : List PPaper}
theorem RdWork.below (h : RdWork w B A1 A2 A3 A4 c4 A5 D P pp) (hb : Below B w w') : RdWork w' B A1 A2 A3 A4 c4 A5 D P pp := ⟨h.d.below hb, h.i.elim fun L q => ⟨L, q.1, q.2.below hb⟩, h.p.below hb, h.cap⟩
theorem RdWork.alloc (h : RdWork w B A1 A2 A3 A4 c4 A5 D P pp) (hB : B ≤ w.heap.size) (o : Obj) : RdWork (w.alloc o) B A1 A2 A3 A4 c4 A5 D P pp := ⟨h.d.alloc hB o, h.i.elim fun L q => ⟨L, q.1, q.2.alloc hB o⟩, h.p.alloc hB o, h.cap⟩
end
theorem own_capU {w : World} {base n c size : Nat} {e : TypeId} {A : Option Addr} {xs : List Value} (h : w.ownsRow base e size (.slice A n c) n xs) : n ≤ c ∧ c ≤ 9223372036854775807 ∧ (A = none → c = 0) := by
  rcases h.2 with ⟨hv, h0⟩ | ⟨g', cap, cur, hv, _, _, h1, h2, _⟩
  · injection hv with e1 _ e3; exact ⟨by omega, by omega, fun _ => e3⟩
  · injection hv with e1 _ e3; subst e3; unfold maxLen at h2; exact ⟨h1, by omega, fun h => by rw [e1] at h; cases h⟩
structure OwnW (w : World) (lo hi : Nat) (A1 : Option Addr) (c1 : Nat) (A2 : Option Addr) (c2 : Nat) (A3 : Option Addr) (c3 : Nat) (A4 : Option Addr) (c4 : Nat) (A5 : Option Addr) (c5 : Nat) (D : PDraft) (P : List PItem) (pp : List PPaper) : Prop where
  all : ∃ l1 h1 l2 h2 l3 h3 L, (lo ≤ l1 ∧ h1 ≤ hi ∧ lo ≤ l2 ∧ h2 ≤ hi ∧ lo ≤ l3 ∧ h3 ≤ hi) ∧ ((h1 ≤ l2 ∨ h2 ≤ l1) ∧ (h1 ≤ l3 ∨ h3 ≤ l1) ∧ (h2 ≤ l3 ∨ h3 ≤ l2)) ∧ OwnDW w l1 h1 A1 c1 A2 c2 A3 c3 D ∧ plI L = P ∧ OwnItems w l2 h2 A4 P.length c4 L ∧ OwnP w l3 h3 A5 c5 pp
section
variable {lo hi lo' hi' : Nat} {w w' : World} {A1 A2 A3 A4 A5 : Option Addr} {c1 c2 c3 c4 c5 : Nat} {D : PDraft} {P : List PItem} {pp : List PPaper}
theorem OwnW.mk3 {l1 h1 l2 h2 l3 h3 : Nat} {L : List RItem} (hd : OwnDW w l1 h1 A1 c1 A2 c2 A3 c3 D) (hp : plI L = P) (hi_ : OwnItems w l2 h2 A4 P.length c4 L) (hpp : OwnP w l3 h3 A5 c5 pp) (hr : lo ≤ l1 ∧ h1 ≤ hi ∧ lo ≤ l2 ∧ h2 ≤ hi ∧ lo ≤ l3 ∧ h3 ≤ hi) (ha : (h1 ≤ l2 ∨ h2 ≤ l1) ∧ (h1 ≤ l3 ∨ h3 ≤ l1) ∧ (h2 ≤ l3 ∨ h3 ≤ l2)) : OwnW w lo hi A1 c1 A2 c2 A3 c3 A4 c4 A5 c5 D P pp := ⟨⟨l1, h1, l2, h2, l3, h3, L, hr, ha, hd, hp, hi_, hpp⟩⟩
theorem OwnW.below (ho : OwnW w lo hi A1 c1 A2 c2 A3 c3 A4 c4 A5 c5 D P pp) (hb : Below w.heap.size w w') : OwnW w' lo hi A1 c1 A2 c2 A3 c3 A4 c4 A5 c5 D P pp := by
  obtain ⟨l1, h1, l2, h2, l3, h3, L, hr, ha, x, hp, y, z⟩ := ho.all
  exact .mk3 (x.below hb) hp (y.below hb) (z.below hb) hr ha
theorem OwnW.alloc (ho : OwnW w lo hi A1 c1 A2 c2 A3 c3 A4 c4 A5 c5 D P pp) (o : Obj) : OwnW (w.alloc o) lo hi A1 c1 A2 c2 A3 c3 A4 c4 A5 c5 D P pp := by
  obtain ⟨l1, h1, l2, h2, l3, h3, L, hr, ha, x, hp, y, z⟩ := ho.all
  exact .mk3 (x.alloc o) hp (y.alloc o) (z.alloc o) hr ha
theorem OwnW.rd (ho : OwnW w lo hi A1 c1 A2 c2 A3 c3 A4 c4 A5 c5 D P pp) (hk : OkWork D P pp 16777216) : RdWork w w.heap.size A1 A2 A3 A4 c4 A5 D P pp := by
  obtain ⟨l1, h1, l2, h2, l3, h3, L, hr, ha, x, hp, y, z⟩ := ho.all
  exact ⟨x.rd hk.d, ⟨L, hp, y.rdP hp hk.i⟩, z.rd hk.p, own_capU y.row⟩
end
def UWork (d1 f1 : Int) (ss1 : List ByteArray) (d2 f2 : Int) (ss2 : List ByteArray) (st : List PStep) (P : List PItem) (pp : List PPaper) (m : Int) (w : World) (e : Ending) (w' : World) : Prop :=
  ∃ B1 e1 B2 e2 B3 e3 B4 e4 B5 e5, e = .returned (.agg #[.int .i64 d1, .int .i64 f1, .slice B1 ss1.length e1, .int .i64 d2, .int .i64 f2, .slice B2 ss2.length e2, .slice B3 st.length e3, .slice B4 P.length e4, .slice B5 pp.length e5, .int .i64 m]) ∧ OwnW w' w.heap.size w'.heap.size B1 e1 B2 e2 B3 e3 B4 e4 B5 e5 ⟨d1, f1, ss1, d2, f2, ss2, st⟩ P pp ∧ Below w.heap.size w w'
def UWorkB (d1 f1 : Int) (ss1 : List ByteArray) (d2 f2 : Int) (ss2 : List ByteArray) (st : List PStep) (P : List PItem) (pp : List PPaper) (m : Int) (b : Bool) (w : World) (e : Ending) (w' : World) : Prop :=
  ∃ B1 e1 B2 e2 B3 e3 B4 e4 B5 e5, e = .returned (.tuple #[.agg #[.int .i64 d1, .int .i64 f1, .slice B1 ss1.length e1, .int .i64 d2, .int .i64 f2, .slice B2 ss2.length e2, .slice B3 st.length e3, .slice B4 P.length e4, .slice B5 pp.length e5, .int .i64 m], .bool b]) ∧ OwnW w' w.heap.size w'.heap.size B1 e1 B2 e2 B3 e3 B4 e4 B5 e5 ⟨d1, f1, ss1, d2, f2, ss2, st⟩ P pp ∧ Below w.heap.size w w'
def UWorkI (d1 f1 : Int) (ss1 : List ByteArray) (d2 f2 : Int) (ss2 : List ByteArray) (st : List PStep) (P : List PItem) (pp : List PPaper) (m : Int) (x : Int) (w : World) (e : Ending) (w' : World) : Prop :=
  ∃ B1 e1 B2 e2 B3 e3 B4 e4 B5 e5, e = .returned (.tuple #[.agg #[.int .i64 d1, .int .i64 f1, .slice B1 ss1.length e1, .int .i64 d2, .int .i64 f2, .slice B2 ss2.length e2, .slice B3 st.length e3, .slice B4 P.length e4, .slice B5 pp.length e5, .int .i64 m], .int .i64 x]) ∧ OwnW w' w.heap.size w'.heap.size B1 e1 B2 e2 B3 e3 B4 e4 B5 e5 ⟨d1, f1, ss1, d2, f2, ss2, st⟩ P pp ∧ Below w.heap.size w w'
theorem blk10_set7 {w : World} {g : Nat} {t : TypeId} {z0 z1 z2 z3 z4 z5 z6 z7 z8 z9 : Value} (h : w.heap[g]? = some (.cells #[z0, z1, z2, z3, z4, z5, z6, z7, z8, z9] t (0, 0))) (a0 a1 a2 a3 a4 a5 a6 : Value) :
    (((((((w.setCell ⟨g, 0, none⟩ a0).setCell ⟨g, 1, none⟩ a1).setCell ⟨g, 2, none⟩ a2).setCell ⟨g, 3, none⟩ a3).setCell ⟨g, 4, none⟩ a4).setCell ⟨g, 5, none⟩ a5).setCell ⟨g, 6, none⟩ a6).heap[g]? = some (.cells #[a0, a1, a2, a3, a4, a5, a6, z7, z8, z9] t (0, 0)) := by
  have := blk_set (blk_set (blk_set (blk_set (blk_set (blk_set (blk_set h 0 a0) 1 a1) 2 a2) 3 a3) 4 a4) 5 a5) 6 a6
  simpa using this
theorem blk_other7 {w : World} {g g2 : Nat} {o : Obj} (h : w.heap[g]? = some o) (hne : g ≠ g2) (a0 a1 a2 a3 a4 a5 a6 : Value) : (((((((w.setCell ⟨g2, 0, none⟩ a0).setCell ⟨g2, 1, none⟩ a1).setCell ⟨g2, 2, none⟩ a2).setCell ⟨g2, 3, none⟩ a3).setCell ⟨g2, 4, none⟩ a4).setCell ⟨g2, 5, none⟩ a5).setCell ⟨g2, 6, none⟩ a6).heap[g]? = some o :=
  blk_other (blk_other (blk_other (blk_other (blk_other (blk_other (blk_other h hne _) hne _) hne _) hne _) hne _) hne _) hne _
theorem blk10f {w : World} {g : Nat} {t : TypeId} {a0 a1 a2 a3 a4 a5 a6 a7 a8 a9 : Value} (h : w.heap[g]? = some (.cells #[a0, a1, a2, a3, a4, a5, a6, a7, a8, a9] t (0, 0))) :
    (w.frozen? ⟨g, 0, none⟩ = false ∧ w.frozen? ⟨g, 1, none⟩ = false ∧ w.frozen? ⟨g, 2, none⟩ = false ∧ w.frozen? ⟨g, 3, none⟩ = false ∧ w.frozen? ⟨g, 4, none⟩ = false) ∧ (w.frozen? ⟨g, 5, none⟩ = false ∧ w.frozen? ⟨g, 6, none⟩ = false ∧ w.frozen? ⟨g, 7, none⟩ = false ∧ w.frozen? ⟨g, 8, none⟩ = false ∧ w.frozen? ⟨g, 9, none⟩ = false) :=
  ⟨⟨(blk_cells h 0).2, (blk_cells h 1).2, (blk_cells h 2).2, (blk_cells h 3).2, (blk_cells h 4).2⟩, (blk_cells h 5).2, (blk_cells h 6).2, (blk_cells h 7).2, (blk_cells h 8).2, (blk_cells h 9).2⟩
theorem only7 {w : World} {g : Nat} (a0 a1 a2 a3 a4 a5 a6 : Value) : w.grownBy (((((((w.setCell ⟨g, 0, none⟩ a0).setCell ⟨g, 1, none⟩ a1).setCell ⟨g, 2, none⟩ a2).setCell ⟨g, 3, none⟩ a3).setCell ⟨g, 4, none⟩ a4).setCell ⟨g, 5, none⟩ a5).setCell ⟨g, 6, none⟩ a6) (some g) := by
  repeat (first | (with_reducible exact World.grownBy.refl _ _) | (with_reducible refine only_setCell ?_ (.inl rfl) _))
theorem only1 {w : World} {g i : Nat} (a : Value) : w.grownBy (w.setCell ⟨g, i, none⟩ a) (some g) := only_setCell (World.grownBy.refl _ _) (.inl rfl) _
set_option maxHeartbeats 1600000 in
theorem u_eqWorkshop (d1 f1 : Int) (ss1 : List ByteArray) (d2 f2 : Int) (ss2 : List ByteArray) (st : List PStep) (P : List PItem) (pp : List PPaper) (m : Int) (A1 A2 A3 A4 A5 B1 B2 B3 B4 B5 : Option Addr) (c1 c2 c3 c4 c5 e1 e2 e3 e4 e5 : Nat) (lo1 hi1 lo2 hi2 : Nat) (w : World) (h1 : OwnW w lo1 hi1 A1 c1 A2 c2 A3 c3 A4 c4 A5 c5 ⟨d1, f1, ss1, d2, f2, ss2, st⟩ P pp) (h2 : OwnW w lo2 hi2 B1 e1 B2 e2 B3 e3 B4 e4 B5 e5 ⟨d1, f1, ss1, d2, f2, ss2, st⟩ P pp) (hok : OkWork ⟨d1, f1, ss1, d2, f2, ss2, st⟩ P pp 16777216) :
    Calls Tryz.prog 20 #[.agg #[.int .i64 d1, .int .i64 f1, .slice A1 ss1.length c1, .int .i64 d2, .int .i64 f2, .slice A2 ss2.length c2, .slice A3 st.length c3, .slice A4 P.length c4, .slice A5 pp.length c5, .int .i64 m], .agg #[.int .i64 d1, .int .i64 f1, .slice B1 ss1.length e1, .int .i64 d2, .int .i64 f2, .slice B2 ss2.length e2, .slice B3 st.length e3, .slice B4 P.length e4, .slice B5 pp.length e5, .int .i64 m]] w fun e w' => e = .returned (.bool true) ∧ Below w.heap.size w w' := by
  have HO := hide hok
  obtain ⟨a1, b1, a2, b2, a3, b3, L1, hr, ha, x1, hp1, y1, z1⟩ := h1.all
  obtain ⟨a1', b1', a2', b2', a3', b3', L2, hr', ha', x2, hp2, y2, z2⟩ := h2.all
  have HP1 := Lib.hid hp1
  have HP2 := Lib.hid hp2
  clear hr ha hr' ha' hp1 hp2 h1 h2 hok
  go_enter Tryz.func20, Tryz.ntmps20
  go_wp2_with fail
  have hb0 : Below w.heap.size w ((w.alloc (.cells #[.int .i64 d1, .int .i64 f1, .slice A1 ss1.length c1, .int .i64 d2, .int .i64 f2, .slice A2 ss2.length c2, .slice A3 st.length c3, .slice A4 P.length c4, .slice A5 pp.length c5, .int .i64 m] 33)).alloc (.cells #[.int .i64 d1, .int .i64 f1, .slice B1 ss1.length e1, .int .i64 d2, .int .i64 f2, .slice B2 ss2.length e2, .slice B3 st.length e3, .slice B4 P.length e4, .slice B5 pp.length e5, .int .i64 m] 33)) := ((Below.refl _ _).alloc (Nat.le_refl _) _).alloc (by simp) _
  have hka : ((w.alloc (.cells #[.int .i64 d1, .int .i64 f1, .slice A1 ss1.length c1, .int .i64 d2, .int .i64 f2, .slice A2 ss2.length c2, .slice A3 st.length c3, .slice A4 P.length c4, .slice A5 pp.length c5, .int .i64 m] 33)).alloc (.cells #[.int .i64 d1, .int .i64 f1, .slice B1 ss1.length e1, .int .i64 d2, .int .i64 f2, .slice B2 ss2.length e2, .slice B3 st.length e3, .slice B4 P.length e4, .slice B5 pp.length e5, .int .i64 m] 33)).heap[w.heap.size]? = some (.cells #[.int .i64 d1, .int .i64 f1, .slice A1 ss1.length c1, .int .i64 d2, .int .i64 f2, .slice A2 ss2.length c2, .slice A3 st.length c3, .slice A4 P.length c4, .slice A5 pp.length c5, .int .i64 m] 33 (0, 0)) := blk_alloc (blk_new _ _) _
  have hko : ((w.alloc (.cells #[.int .i64 d1, .int .i64 f1, .slice A1 ss1.length c1, .int .i64 d2, .int .i64 f2, .slice A2 ss2.length c2, .slice A3 st.length c3, .slice A4 P.length c4, .slice A5 pp.length c5, .int .i64 m] 33)).alloc (.cells #[.int .i64 d1, .int .i64 f1, .slice B1 ss1.length e1, .int .i64 d2, .int .i64 f2, .slice B2 ss2.length e2, .slice B3 st.length e3, .slice B4 P.length e4, .slice B5 pp.length e5, .int .i64 m] 33)).heap[w.heap.size + 1]? = some (.cells #[.int .i64 d1, .int .i64 f1, .slice B1 ss1.length e1, .int .i64 d2, .int .i64 f2, .slice B2 ss2.length e2, .slice B3 st.length e3, .slice B4 P.length e4, .slice B5 pp.length e5, .int .i64 m] 33 (0, 0)) := blk_new_at _ _ (by simp)
  generalize ((w.alloc (.cells #[.int .i64 d1, .int .i64 f1, .slice A1 ss1.length c1, .int .i64 d2, .int .i64 f2, .slice A2 ss2.length c2, .slice A3 st.length c3, .slice A4 P.length c4, .slice A5 pp.length c5, .int .i64 m] 33)).alloc (.cells #[.int .i64 d1, .int .i64 f1, .slice B1 ss1.length e1, .int .i64 d2, .int .i64 f2, .slice B2 ss2.length e2, .slice B3 st.length e3, .slice B4 P.length e4, .slice B5 pp.length e5, .int .i64 m] 33)) = w0 at *
  have hs0 := hb0.size
  refine (u_eqDraftW d1 f1 ss1 d2 f2 ss2 st A1 A2 A3 B1 B2 B3 c1 c2 c3 e1 e2 e3 _ _ _ _ w0 (x1.below hb0) (x2.below hb0) (unhide HO).d).mono ?_
  rintro e w1 ⟨rfl, hb1⟩
  have hka1 := blk_next hka hb1
  have hko1 := blk_next hko hb1
  have hbw1 : Below w.heap.size w w1 := hb0.trans (hb1.mono hs0)
  clear hka hko hb1 hb0 x1 x2
  obtain ⟨hx0, hx1, hx2, hx3, hx4, hx5, hx6, hx7, hx8, hx9, hxl⟩ := blk10 hka1
  obtain ⟨hy0, hy1, hy2, hy3, hy4, hy5, hy6, hy7, hy8, hy9, hyl⟩ := blk10 hko1
  go_wp2_with fail
  clear hx0 hx1 hx2 hx3 hx4 hx5 hx6 hx7 hx8 hx9 hxl
  clear hy0 hy1 hy2 hy3 hy4 hy5 hy6 hy7 hy8 hy9 hyl
  refine (u_eqItemS P A4 B4 c4 e4 L1 L2 _ _ _ _ w1 (y1.below hbw1) (y2.below hbw1) HP1.out HP2.out (unhide HO).i).mono ?_
  rintro e w2 ⟨rfl, hb2⟩
  have hka2 := blk_next hka1 hb2
  have hko2 := blk_next hko1 hb2
  have hbw2 : Below w.heap.size w w2 := hbw1.trans (hb2.mono hbw1.size)
  clear hka1 hko1 hb2 hbw1 y1 y2
  obtain ⟨hx0, hx1, hx2, hx3, hx4, hx5, hx6, hx7, hx8, hx9, hxl⟩ := blk10 hka2
  obtain ⟨hy0, hy1, hy2, hy3, hy4, hy5, hy6, hy7, hy8, hy9, hyl⟩ := blk10 hko2
  go_wp2_with fail
  clear hx0 hx1 hx2 hx3 hx4 hx5 hx6 hx7 hx8 hx9 hxl
  clear hy0 hy1 hy2 hy3 hy4 hy5 hy6 hy7 hy8 hy9 hyl
  refine (l_eqPaperS_same w2.heap.size A5 B5 pp.length c5 e5 pp w2 ((z1.below hbw2).rd (unhide HO).p) ((z2.below hbw2).rd (unhide HO).p) (Nat.le_refl _)).mono ?_
  rintro e w3 ⟨rfl, hb3⟩
  have hka3 := blk_next hka2 hb3
  have hko3 := blk_next hko2 hb3
  have hbw3 : Below w.heap.size w w3 := hbw2.trans (hb3.mono hbw2.size)
  clear hka2 hko2 hb3 hbw2 z1 z2
  obtain ⟨hx0, hx1, hx2, hx3, hx4, hx5, hx6, hx7, hx8, hx9, hxl⟩ := blk10 hka3
  obtain ⟨hy0, hy1, hy2, hy3, hy4, hy5, hy6, hy7, hy8, hy9, hyl⟩ := blk10 hko3
  go_wp2
  go_ret
  exact ⟨rfl, hbw3⟩
structure MkW (w : World) (lo hi : Nat) (A1 : Option Addr) (c1 n1 : Nat) (A2 : Option Addr) (c2 n2 : Nat) (A3 : Option Addr) (c3 n3 : Nat) (A4 : Option Addr) (c4 : Nat) (A5 : Option Addr) (c5 n5 : Nat) (P : List PItem) (k : Int) : Prop where
  all : ∃ l1 h1 l2 h2 l3 L, MkDW w l1 h1 A1 c1 n1 A2 c2 n2 A3 c3 n3 k ∧ plI L = P ∧ OwnItems w l2 h2 A4 P.length c4 (mksI (k + n1 + n2 + 7 * (n3 : Int)) L) ∧ w.ownsRow l3 105 3 (.slice A5 n5 c5) n5 (marksPaper (k + n1 + n2 + 7 * (n3 : Int) + (cntI P : Int)) n5)
section
variable {lo hi : Nat} {w w' : World} {A1 A2 A3 A4 A5 : Option Addr} {c1 c2 c3 c4 c5 n1 n2 n3 n5 : Nat} {P : List PItem} {k : Int}
end
theorem MkDW.within {w w' : World} {lo hi l h : Nat} {A1 A2 A3 : Option Addr} {c1 c2 c3 n1 n2 n3 : Nat} {k : Int} (q : MkDW w lo hi A1 c1 n1 A2 c2 n2 A3 c3 n3 k) (ht : ∀ c j, (Value.slice A3 n3 c).ownBlock = some j → j < hi) (hW : Within l h w w') (hd : hi ≤ l ∨ h ≤ lo) : MkDW w' lo hi A1 c1 n1 A2 c2 n2 A3 c3 n3 k :=
  ⟨⟨own_within q.m1.row hW (fun j hj => by have h1 := q.m1.top j hj; have h2 := (q.m1.row.lt j hj).1; omega), q.m1.top⟩, ⟨own_within q.m2.row hW (fun j hj => by have h1 := q.m2.top j hj; have h2 := (q.m2.row.lt j hj).1; omega), q.m2.top⟩, q.m3.elim fun c0 h3 => ⟨c0, own_within h3 hW (fun j hj => by have h1 := ht _ j hj; have h2 := (h3.lt j hj).1; omega)⟩⟩
theorem own_anyc {A : Option Addr} {n c c' : Nat} : (Value.slice A n c).ownBlock = (Value.slice A n c').ownBlock := by cases A <;> rfl
theorem Within.own3 {w w' : World} {base n lo hi : Nat} {A : Option Addr} {c : Nat} {xs : List Value} (h : w.ownsRow base 105 3 (.slice A n c) n xs) (ht : ∀ k, (Value.slice A n c).ownBlock = some k → k < hi) (hb : lo ≤ base) (hg : w.grownBy w' (Value.slice A n c).ownBlock) : Within lo hi w w' := Within.of_grown h (by decide) hg hb ht
set_option maxHeartbeats 1600000 in
theorem u_markWorkshop (d1 f1 : Int) (ss1 : List ByteArray) (d2 f2 : Int) (ss2 : List ByteArray) (st : List PStep) (P : List PItem) (pp : List PPaper) (m : Int) (A1 A2 A3 A4 A5 : Option Addr) (c1 c2 c3 c4 c5 lo hi : Nat) (k : Int) (w : World) (h : OwnW w lo hi A1 c1 A2 c2 A3 c3 A4 c4 A5 c5 ⟨d1, f1, ss1, d2, f2, ss2, st⟩ P pp) (hk0 : 0 ≤ k) (hk1 : k ≤ 1000000000000000) (hok : OkWork ⟨d1, f1, ss1, d2, f2, ss2, st⟩ P pp 16777216) :
    Calls Tryz.prog 21 #[.agg #[.int .i64 d1, .int .i64 f1, .slice A1 ss1.length c1, .int .i64 d2, .int .i64 f2, .slice A2 ss2.length c2, .slice A3 st.length c3, .slice A4 P.length c4, .slice A5 pp.length c5, .int .i64 m], .int .i64 k] w fun e w' =>
      e = .returned (.int .i64 (k + ss1.length + ss2.length + 7 * (st.length : Int) + (cntI P : Int) + 3 * (pp.length : Int))) ∧ MkW w' lo hi A1 c1 ss1.length A2 c2 ss2.length A3 c3 st.length A4 c4 A5 c5 pp.length P k ∧ Within lo hi w w' := by
  obtain ⟨l1, h1, l2, h2, l3, h3, L, hr, ha, x, hp, y, z⟩ := h.all
  have hn1 : ss1.length ≤ 16777216 := hok.d.l1
  have hn2 : ss2.length ≤ 16777216 := hok.d.l2
  have hn3 : st.length ≤ 16777216 := hok.d.l3
  have hn4 := cntI_le2 hok.i
  have hn5 := hok.p
  have HP := Lib.hid hp
  have HO := hide hok
  have HA := hide ha
  have HR := hide hr
  clear hp hok ha hr h
  go_enter Tryz.func21, Tryz.ntmps21
  go_wp2_with fail
  have ht3 : ∀ c j, (Value.slice A3 st.length c).ownBlock = some j → j < h1 := fun c j hj => x.o3.elim fun c0 h3 => h3.top j ((own_anyc (c' := c)).trans hj)
  have HT3 := hide ht3
  clear ht3
  have hka := blk_new w (.cells #[.int .i64 d1, .int .i64 f1, .slice A1 ss1.length c1, .int .i64 d2, .int .i64 f2, .slice A2 ss2.length c2, .slice A3 st.length c3, .slice A4 P.length c4, .slice A5 pp.length c5, .int .i64 m] 33)
  have hW0 : Within lo hi w (w.alloc (.cells #[.int .i64 d1, .int .i64 f1, .slice A1 ss1.length c1, .int .i64 d2, .int .i64 f2, .slice A2 ss2.length c2, .slice A3 st.length c3, .slice A4 P.length c4, .slice A5 pp.length c5, .int .i64 m] 33)) := Within.of_below ((Below.refl _ _).alloc (Nat.le_refl _) _)
  have x0 := x.alloc (.cells #[.int .i64 d1, .int .i64 f1, .slice A1 ss1.length c1, .int .i64 d2, .int .i64 f2, .slice A2 ss2.length c2, .slice A3 st.length c3, .slice A4 P.length c4, .slice A5 pp.length c5, .int .i64 m] 33)
  have y0 := y.alloc (.cells #[.int .i64 d1, .int .i64 f1, .slice A1 ss1.length c1, .int .i64 d2, .int .i64 f2, .slice A2 ss2.length c2, .slice A3 st.length c3, .slice A4 P.length c4, .slice A5 pp.length c5, .int .i64 m] 33)
  have z0 := z.alloc (.cells #[.int .i64 d1, .int .i64 f1, .slice A1 ss1.length c1, .int .i64 d2, .int .i64 f2, .slice A2 ss2.length c2, .slice A3 st.length c3, .slice A4 P.length c4, .slice A5 pp.length c5, .int .i64 m] 33)
  clear x y z
  generalize (w.alloc (.cells #[.int .i64 d1, .int .i64 f1, .slice A1 ss1.length c1, .int .i64 d2, .int .i64 f2, .slice A2 ss2.length c2, .slice A3 st.length c3, .slice A4 P.length c4, .slice A5 pp.length c5, .int .i64 m] 33)) = w0 at *
  refine (u_markDraftW d1 f1 ss1 d2 f2 ss2 st A1 A2 A3 c1 c2 c3 l1 h1 k w0 x0 hk0 (by omega) (unhide HO).d).mono ?_
  rintro e w1 ⟨rfl, m1, hW1⟩
  have hka1 := hW1.box hka
  have y1 := y0.within hW1 (by have := unhide HA; omega)
  have z1 := z0.within hW1 (by have := unhide HA; omega)
  have hX1 := hW0.trans (hW1.wide (unhide HR).1 (unhide HR).2.1)
  clear hka y0 z0 hW0 hW1 x0
  obtain ⟨hx0, hx1, hx2, hx3, hx4, hx5, hx6, hx7, hx8, hx9, hxl⟩ := blk10 hka1
  go_wp2_with fail
  clear hx0 hx1 hx2 hx3 hx4 hx5 hx6 hx7 hx8 hx9 hxl
  refine (u_markItemS P A4 c4 L l2 h2 (k + ss1.length + ss2.length + 7 * (st.length : Int)) w1 y1 HP.out (by omega) (by omega) (unhide HO).i).mono ?_
  rintro e w2 ⟨rfl, m2, hW2⟩
  have hka2 := hW2.box hka1
  have n1 := m1.within (unhide HT3) hW2 (by have := unhide HA; omega)
  have z2 := z1.within hW2 (by have := unhide HA; omega)
  have hX2 := hX1.trans (hW2.wide (unhide HR).2.2.1 (unhide HR).2.2.2.1)
  clear hka1 y1 z1 hX1 hW2 m1
  obtain ⟨hx0, hx1, hx2, hx3, hx4, hx5, hx6, hx7, hx8, hx9, hxl⟩ := blk10 hka2
  go_wp2_with fail
  clear hx0 hx1 hx2 hx3 hx4 hx5 hx6 hx7 hx8 hx9 hxl
  have z2r : w2.ownsRow l3 105 3 (.slice A5 pp.length c5) pp.length (pp.flatMap paperCells) := z2.row
  refine (l_markPaperS l3 A5 pp.length c5 _ (k + ss1.length + ss2.length + 7 * (st.length : Int) + (cntI P : Int)) w2 z2r (by omega) (by omega) hn5).mono ?_
  rintro e w3 ⟨rfl, m3, hg3⟩
  have hW3 : Within l3 h3 w2 w3 := Within.own3 z2.row z2.top (Nat.le_refl _) hg3
  have q1 := n1.within (unhide HT3) hW3 (by have := unhide HA; omega)
  have q2 := m2.within hW3 (by have := unhide HA; omega)
  have hX3 := hX2.trans (hW3.wide (unhide HR).2.2.2.2.1 (unhide HR).2.2.2.2.2)
  clear hX2 hW3 n1 m2 hg3
  go_wp2
  go_ret
  exact ⟨rfl, ⟨⟨l1, h1, l2, h2, l3, L, q1, HP.out, q2, m3⟩⟩, hX3⟩
end Go.Proofs.YtlimlolciekimaaGreatDoor
namespace Go.Proofs.YtlimlolciekimaaGreatDoor
open Go.ChangeShapes Go.WideShapes Go.ChangeAt Go.RowKit
set_option linter.unusedVariables false
set_option linter.unusedSimpArgs false
set_option maxRecDepth 10000
def paperOk (K W H : Int) : Bool := inB K 0 9 && (inB W 40 400 && inB H 0 100000)
set_option maxHeartbeats 800000 in
theorem i_PaperOk (K W H : Int) (w : World) :
    Calls Tryz.prog 116 #[.agg #[.int .i64 K, .int .i64 W, .int .i64 H]] w fun e w' => e = .returned (.bool (paperOk K W H)) ∧ Below w.heap.size w w' := by
  cases h1 : inB K 0 9
  · have HR : Hid (paperOk K W H = false) := by unfold Hid paperOk; rw [h1]; rfl
    go_enter Tryz.func116, Tryz.ntmps116
    go_wp2_with (go_at_call 71; refine (i_within _ _ _ _).mono ?_; rintro e w' ⟨rfl, rfl⟩)
    go_ret
    exact ⟨ret_bool HR.out.symm, bel⟩
  · cases h2 : inB W 40 400
    · have HR : Hid (paperOk K W H = false) := by unfold Hid paperOk; rw [h1, h2]; rfl
      go_enter Tryz.func116, Tryz.ntmps116
      go_wp2_with (go_at_call 71; refine (i_within _ _ _ _).mono ?_; rintro e w' ⟨rfl, rfl⟩)
      go_ret
      exact ⟨ret_bool HR.out.symm, bel⟩
    · have HR : Hid (paperOk K W H = inB H 0 100000) := by unfold Hid paperOk; rw [h1, h2]; rfl
      go_enter Tryz.func116, Tryz.ntmps116
      go_wp2_with (go_at_call 71; refine (i_within _ _ _ _).mono ?_; rintro e w' ⟨rfl, rfl⟩)
      go_ret
      exact ⟨ret_bool HR.out.symm, bel⟩
set_option maxHeartbeats 800000 in
theorem s_PaperOk (K W H : Int) (w : World) :
    Calls Tryz.prog 149 #[.agg #[.int .i64 K, .int .i64 W, .int .i64 H]] w fun e w' => e = .returned (.bool (paperOk K W H)) ∧ Below w.heap.size w w' := by
  cases h1 : inB K 0 9
  · have HR : Hid (paperOk K W H = false) := by unfold Hid paperOk; rw [h1]; rfl
    go_enter Tryz.func149, Tryz.ntmps149
    go_wp2_with (go_at_call 95; refine (s_l01In _ _ _ _).mono ?_; rintro e w' ⟨rfl, rfl⟩)
    go_ret
    exact ⟨ret_bool HR.out.symm, bel⟩
  · cases h2 : inB W 40 400
    · have HR : Hid (paperOk K W H = false) := by unfold Hid paperOk; rw [h1, h2]; rfl
      go_enter Tryz.func149, Tryz.ntmps149
      go_wp2_with (go_at_call 95; refine (s_l01In _ _ _ _).mono ?_; rintro e w' ⟨rfl, rfl⟩)
      go_ret
      exact ⟨ret_bool HR.out.symm, bel⟩
    · have HR : Hid (paperOk K W H = inB H 0 100000) := by unfold Hid paperOk; rw [h1, h2]; rfl
      go_enter Tryz.func149, Tryz.ntmps149
      go_wp2_with (go_at_call 95; refine (s_l01In _ _ _ _).mono ?_; rintro e w' ⟨rfl, rfl⟩)
      go_ret
      exact ⟨ret_bool HR.out.symm, bel⟩
def papOk (l : List PPaper) : Bool := l.all fun p => paperOk p.k p.g p.s
def papGood (l : List PPaper) (j : Nat) : Prop := ∀ i, i < j → ∀ p, l[i]? = some p → paperOk p.k p.g p.s = true
theorem papGood_zero (l : List PPaper) : papGood l 0 := fun i hi => absurd hi (by omega)
theorem papGood_succ {l : List PPaper} {j : Nat} {p : PPaper} (h : papGood l j) (hx : l[j]? = some p) (hn : paperOk p.k p.g p.s = true) : papGood l (j + 1) := by
  intro i hi y hy
  rcases Nat.lt_or_ge i j with h1 | h1
  · exact h i h1 y hy
  · have : i = j := by omega
    subst this
    rw [hx] at hy; injection hy with hy; subst hy; exact hn
theorem papOk_no {l : List PPaper} {j : Nat} {p : PPaper} (hx : l[j]? = some p) (hn : paperOk p.k p.g p.s = false) : papOk l = false := by
  unfold papOk
  rw [List.all_eq_false]
  exact ⟨p, List.mem_of_getElem? hx, by rw [hn]; decide⟩
theorem papOk_yes {l : List PPaper} (h : papGood l l.length) : papOk l = true := by
  unfold papOk
  rw [List.all_eq_true]
  intro p hp
  obtain ⟨i, hi, rfl⟩ := List.getElem_of_mem hp
  exact h i hi _ (List.getElem?_eq_getElem hi)
set_option maxHeartbeats 400000 in
theorem c_arePapers1 (K W H : Int) (w : World) :
    Calls Tryz.prog 115 #[.agg #[.int .i64 K, .int .i64 W, .int .i64 H]] w fun e w' => e = .returned (.bool (!paperOk K W H)) ∧ Below w.heap.size w w' := by
  cases h : paperOk K W H
  · have HC := Lib.hid h
    clear h
    go_enter Tryz.func115, Tryz.ntmps115
    go_wp2_with (go_at_call 116; refine (i_PaperOk _ _ _ _).mono ?_; rw [HC.out]; rintro e w1 ⟨rfl, hb1⟩)
    go_ret
    exact ⟨rfl, bel⟩
  · have HC := Lib.hid h
    clear h
    go_enter Tryz.func115, Tryz.ntmps115
    go_wp2_with (go_at_call 116; refine (i_PaperOk _ _ _ _).mono ?_; rw [HC.out]; rintro e w1 ⟨rfl, hb1⟩)
    go_ret
    exact ⟨rfl, bel⟩
set_option maxHeartbeats 1600000 in
theorem idxPap (pp : List PPaper) (B : Nat) (A : Option Addr) (n c : Nat) (w : World) (hS : Papers w B A n pp) (hB : B ≤ w.heap.size) :
    Calls Tryz.prog 163 #[.slice A n c, .func (.func 115) #[] #[]] w fun e w' => (∃ x : Int, e = .returned (.int .i64 x) ∧ (decide (0 ≤ x)) = !papOk pp) ∧ Below w.heap.size w w' := by
  have hn := hS.nb
  have hl := hS.len
  have HL := Lib.hid hl
  clear hl
  go_enter Tryz.func163, Tryz.ntmps163
  go_wp2
  go_loopw [5, 8] (fun x i wr => ∃ j : Nat, j ≤ n ∧ i = .int .i64 j ∧ Hid (papGood pp j) ∧ Below w.heap.size w wr) (fun _ i _ => n - (intOf i).toNat)
  case atStart => exact ⟨0, Nat.zero_le _, rfl, papGood_zero _, Below.refl _ _⟩
  case round =>
    obtain ⟨j, hj, rfl, HN, hb⟩ := hrel
    have hzr := hb.size
    by_cases hltn : j < n
    · obtain ⟨hk1, ad, rfl, hab, hc0, hc1, hc2⟩ := (hS.below (hb.mono hB)).at_ hltn
      have HX := Lib.hid (show pp[j]? = some pp[j] from List.getElem?_eq_getElem hk1)
      generalize pp[j] = r at *
      have hcon := c_arePapers1 r.k r.g r.s wr
      cases hq : paperOk r.k r.g r.s
      · have HF : Hid ((decide (0 ≤ (j : Int))) = !papOk pp) := by unfold Hid; rw [papOk_no HX.out hq]; simp
        rw [hq] at hcon
        have HC := hide hcon
        clear hq hcon
        go_wp2_with (go_at_call 115; refine (unhide HC).mono ?_; rintro e w1 ⟨rfl, hb1⟩)
        go_ret
        exact ⟨⟨_, rfl, HF.out⟩, bel⟩
      · have HS := Lib.hid (papGood_succ HN.out HX.out hq)
        rw [hq] at hcon
        have HC := hide hcon
        clear hq hcon
        go_wp2_with (go_at_call 115; refine (unhide HC).mono ?_; rintro e w1 ⟨rfl, hb1⟩)
        go_roundw
        case rel => exact ⟨j + 1, by omega, by go_num, HS.out, bel⟩
        case measure => simp [intOf]; omega
    · have hjn : j = n := by omega
      have HF : Hid ((decide (0 ≤ (-1 : Int))) = !papOk pp) := by unfold Hid; rw [papOk_yes (by rw [HL.out, ← hjn]; exact HN.out)]; decide
      clear hjn
      go_wp2
      go_ret
      exact ⟨⟨_, rfl, HF.out⟩, hb⟩
set_option maxHeartbeats 800000 in
theorem i_arePapers (pp : List PPaper) (B : Nat) (A : Option Addr) (n c : Nat) (w : World) (hS : Papers w B A n pp) (hB : B ≤ w.heap.size) :
    Calls Tryz.prog 67 #[.slice A n c] w fun e w' => e = .returned (.bool (papOk pp)) ∧ Below w.heap.size w w' := by
  have hcon : ∀ (W : World), Below w.heap.size w W → Calls Tryz.prog 114 #[.slice A n c, .func (.func 115) #[] #[]] W fun e w' => e = .returned (.bool (!papOk pp)) ∧ Below W.heap.size W w' := by
    intro W hW
    have hix := idxPap pp B A n c W (hS.below (hW.mono hB)) (Nat.le_trans hB hW.size)
    have HIX := hide hix
    clear hix
    go_enter Tryz.func114, Tryz.ntmps114
    go_wp2_with (go_at_call 163; refine (unhide HIX).mono ?_; rintro e w1 ⟨⟨x, rfl, hx⟩, hb1⟩; have HX := Lib.hid hx; clear hx)
    go_ret
    exact ⟨ret_bool HX.out, hb1⟩
  have HC := hide hcon
  clear hcon
  cases hp : papOk pp
  · rw [hp] at HC
    clear hp
    go_enter Tryz.func67, Tryz.ntmps67
    go_wp2_with (go_at_call 114; refine (unhide HC _ (Below.refl _ _)).mono ?_; rintro e w1 ⟨rfl, hb1⟩)
    go_ret
    exact ⟨rfl, hb1⟩
  · rw [hp] at HC
    clear hp
    go_enter Tryz.func67, Tryz.ntmps67
    go_wp2_with (go_at_call 114; refine (unhide HC _ (Below.refl _ _)).mono ?_; rintro e w1 ⟨rfl, hb1⟩)
    go_ret
    exact ⟨rfl, hb1⟩
set_option maxHeartbeats 800000 in
theorem s_l23Ok (pp : List PPaper) (B : Nat) (A : Option Addr) (n c : Nat) (w : World) (hS : Papers w B A n pp) (hB : B ≤ w.heap.size) :
    Calls Tryz.prog 94 #[.slice A n c] w fun e w' => e = .returned (.bool (papOk pp)) ∧ Below w.heap.size w w' := by
  have hn := hS.nb
  have hl := hS.len
  have HL := Lib.hid hl
  clear hl
  go_enter Tryz.func94, Tryz.ntmps94
  go_wp2
  go_loopw [3] (fun i wr => ∃ j : Nat, j ≤ n ∧ i = .int .i64 j ∧ Hid (papGood pp j) ∧ Below w.heap.size w wr) (fun i _ => n - (intOf i).toNat)
  case atStart => exact ⟨0, Nat.zero_le _, rfl, papGood_zero _, Below.refl _ _⟩
  case round =>
    obtain ⟨j, hj, rfl, HN, hb⟩ := hrel
    have hzr := hb.size
    by_cases hltn : j < n
    · obtain ⟨hk1, ad, rfl, hab, hc0, hc1, hc2⟩ := (hS.below (hb.mono hB)).at_ hltn
      have HX := Lib.hid (show pp[j]? = some pp[j] from List.getElem?_eq_getElem hk1)
      generalize pp[j] = r at *
      have hcon := s_PaperOk r.k r.g r.s wr
      cases hq : paperOk r.k r.g r.s
      · have HF := Lib.hid (papOk_no HX.out hq)
        rw [hq] at hcon
        have HC := hide hcon
        clear hq hcon
        go_wp2_with (go_at_call 149; refine (unhide HC).mono ?_; rintro e w1 ⟨rfl, hb1⟩)
        go_ret
        exact ⟨ret_bool HF.out.symm, bel⟩
      · have HS := Lib.hid (papGood_succ HN.out HX.out hq)
        rw [hq] at hcon
        have HC := hide hcon
        clear hq hcon
        go_wp2_with (go_at_call 149; refine (unhide HC).mono ?_; rintro e w1 ⟨rfl, hb1⟩)
        go_roundw
        case rel => exact ⟨j + 1, by omega, by go_num, HS.out, bel⟩
        case measure => simp [intOf]; omega
    · have hjn : j = n := by omega
      have HF := Lib.hid (papOk_yes (l := pp) (by rw [HL.out, ← hjn]; exact HN.out))
      clear hjn
      go_wp2
      go_ret
      exact ⟨ret_bool HF.out.symm, hb⟩
end Go.Proofs.YtlimlolciekimaaGreatDoor
namespace Go.Proofs.YtlimlolciekimaaGreatDoor
open Go.ChangeShapes Go.WideShapes Go.ChangeAt Go.RowKit
set_option linter.unusedVariables false
set_option linter.unusedSimpArgs false
set_option maxRecDepth 10000
def zPap : PPaper := ⟨0, 0, 0⟩
def pAt (pp : List PPaper) (j : Nat) : PPaper := pp.getD j zPap
theorem pAt_get (pp : List PPaper) (j : Nat) (h : j < pp.length) : pAt pp j = pp[j] := by unfold pAt; simp [List.getD, h]
def sumK (pp : List PPaper) (K : Int) : Nat → Int
  | 0 => 0
  | j + 1 => if (pAt pp j).k = K then sumK pp K j + (pAt pp j).s else sumK pp K j
theorem sumK_yes {pp : List PPaper} {K : Int} {j : Nat} (h : j < pp.length) (hk : pp[j].k = K) : sumK pp K (j + 1) = sumK pp K j + pp[j].s := by
  show (if (pAt pp j).k = K then _ else _) = _
  rw [pAt_get pp j h, if_pos hk]
theorem sumK_no {pp : List PPaper} {K : Int} {j : Nat} (h : j < pp.length) (hk : ¬ pp[j].k = K) : sumK pp K (j + 1) = sumK pp K j := by
  show (if (pAt pp j).k = K then _ else _) = _
  rw [pAt_get pp j h, if_neg hk]
theorem papOk_at {pp : List PPaper} (h : papOk pp = true) {p : PPaper} (hp : p ∈ pp) : (0 ≤ p.k ∧ p.k ≤ 9) ∧ (40 ≤ p.g ∧ p.g ≤ 400) ∧ 0 ≤ p.s ∧ p.s ≤ 100000 := by
  unfold papOk at h
  rw [List.all_eq_true] at h
  have := h p hp
  unfold paperOk at this
  simp only [Bool.and_eq_true, inB_iff'] at this
  exact ⟨this.1, this.2.1, this.2.2⟩
theorem sumK_bd {pp : List PPaper} (h : papOk pp = true) (K : Int) : ∀ j, j ≤ pp.length → 0 ≤ sumK pp K j ∧ sumK pp K j ≤ 100000 * (j : Int)
  | 0, _ => by show (0 : Int) ≤ 0 ∧ (0 : Int) ≤ _; omega
  | j + 1, hj => by
    have h1 := sumK_bd h K j (by omega)
    have h2 := papOk_at h (List.getElem_mem (show j < pp.length by omega))
    by_cases hk : pp[j].k = K
    · rw [sumK_yes (by omega) hk]; omega
    · rw [sumK_no (by omega) hk]; omega
def sheetsL (pp : List PPaper) (K : Int) : Int := if papOk pp = true then sumK pp K pp.length else 0
theorem sheetsL_no {pp : List PPaper} {K : Int} (h : papOk pp = false) : sheetsL pp K = 0 := by unfold sheetsL; rw [h]; rfl
theorem sheetsL_yes {pp : List PPaper} {K : Int} (h : papOk pp = true) : sheetsL pp K = sumK pp K pp.length := by unfold sheetsL; rw [if_pos h]
set_option maxHeartbeats 1600000 in
theorem i_SheetsLeft (pp : List PPaper) (K : Int) (B : Nat) (A : Option Addr) (n c : Nat) (w : World) (hS : Papers w B A n pp) (hB : B ≤ w.heap.size) :
    Calls Tryz.prog 27 #[.slice A n c, .int .i64 K] w fun e w' => e = .returned (.int .i64 (sheetsL pp K)) ∧ Below w.heap.size w w' := by
  have hn := hS.nb
  have hl := hS.len
  have hap := i_arePapers pp B A n c w hS hB
  cases hp : papOk pp
  · rw [hp] at hap
    have HAP := hide hap
    have HR := Lib.hid (sheetsL_no (K := K) hp)
    clear hap hp hl
    go_enter Tryz.func27, Tryz.ntmps27
    go_wp2_with (go_at_call 67; refine (unhide HAP).mono ?_; rintro e w1 ⟨rfl, hb1⟩)
    go_ret
    exact ⟨ret_int HR.out.symm, hb1⟩
  · have HP := Lib.hid hp
    have hbd := fun j (h : j ≤ n) => sumK_bd hp K j (by omega)
    rw [hp] at hap
    have HAP := hide hap
    have HR := Lib.hid (sheetsL_yes (K := K) hp)
    have HL := Lib.hid hl
    have HBD := hide hbd
    clear hap hp hl hbd
    go_enter Tryz.func27, Tryz.ntmps27
    go_wp2_with (go_at_call 67; refine (unhide HAP).mono ?_; rintro e w1 ⟨rfl, hb1⟩)
    go_loopw [5, 13] (fun q i wr => ∃ (j : Nat) (x : Int), j ≤ n ∧ i = .int .i64 j ∧ q = .int .i64 x ∧ Hid (x = sumK pp K j) ∧ Below w.heap.size w wr) (fun _ i _ => n - (intOf i).toNat)
    case atStart => exact ⟨0, 0, Nat.zero_le _, rfl, rfl, rfl, hb1⟩
    case round =>
      obtain ⟨j, x, hj, rfl, rfl, HX, hb⟩ := hrel
      have hzr := hb.size
      have hx := (unhide HBD) j hj
      rw [← HX.out] at hx
      by_cases hlt : j < n
      · obtain ⟨hk1, ad, rfl, hab, hc0, hc1, hc2⟩ := (hS.below (hb.mono hB)).at_ hlt
        have hpb := papOk_at HP.out (List.getElem_mem hk1)
        have hwx : IntKind.i64.wrap (x + pp[j].s) = x + pp[j].s := by rw [IntKind.wrap_i64]; omega
        by_cases hk : pp[j].k = K
        · have HS := Lib.hid (sumK_yes hk1 hk)
          go_wp2
          go_roundw
          case rel => exact ⟨j + 1, x + pp[j].s, by omega, by go_num, rfl, by unfold Hid; rw [HS.out, HX.out], bel⟩
          case measure => simp [intOf]; omega
        · have HS := Lib.hid (sumK_no hk1 hk)
          go_wp2
          go_roundw
          case rel => exact ⟨j + 1, x, by omega, by go_num, rfl, by unfold Hid; rw [HS.out, HX.out], bel⟩
          case measure => simp [intOf]; omega
      · have hjn : j = n := by omega
        have HF : Hid (x = sheetsL pp K) := by unfold Hid; rw [HR.out, HX.out, HL.out, hjn]
        clear hjn
        go_wp2
        go_ret
        exact ⟨ret_int HF.out, hb⟩
set_option maxHeartbeats 1600000 in
theorem s_SheetsLeft (pp : List PPaper) (K : Int) (B : Nat) (A : Option Addr) (n c : Nat) (w : World) (hS : Papers w B A n pp) (hB : B ≤ w.heap.size) :
    Calls Tryz.prog 49 #[.slice A n c, .int .i64 K] w fun e w' => e = .returned (.int .i64 (sheetsL pp K)) ∧ Below w.heap.size w w' := by
  have hn := hS.nb
  have hl := hS.len
  have hap := fun (W : World) (hW : Below w.heap.size w W) => s_l23Ok pp B A n c W (hS.below (hW.mono hB)) (Nat.le_trans hB hW.size)
  cases hp : papOk pp
  · simp only [hp] at hap
    have HAP := hide hap
    have HR := Lib.hid (sheetsL_no (K := K) hp)
    clear hap hp
    by_cases hn0 : 0 < n
    · go_enter Tryz.func49, Tryz.ntmps49
      go_wp2
      go_loopw [5, 6] (fun q i wr => i = .int .i64 0 ∧ q = .int .i64 0 ∧ Below w.heap.size w wr) (fun _ i _ => 0)
      case atStart => exact ⟨rfl, rfl, Below.refl _ _⟩
      case round =>
        obtain ⟨rfl, rfl, hb⟩ := hrel
        go_wp2_with (go_at_call 94; refine (unhide HAP _ hb).mono ?_; rintro e w1 ⟨rfl, hb1⟩)
        go_ret
        exact ⟨ret_int HR.out.symm, hb.trans (hb1.mono hb.size)⟩
    · have hn1 : n = 0 := by omega
      subst hn1
      go_enter Tryz.func49, Tryz.ntmps49
      go_wp2
      go_loopw [5, 6] (fun q i wr => i = .int .i64 0 ∧ q = .int .i64 0 ∧ Below w.heap.size w wr) (fun _ i _ => 0)
      case atStart => exact ⟨rfl, rfl, Below.refl _ _⟩
      case round =>
        obtain ⟨rfl, rfl, hb⟩ := hrel
        go_wp2
        go_ret
        exact ⟨ret_int HR.out.symm, hb⟩
  · have HP := Lib.hid hp
    have hbd := fun j (h : j ≤ n) => sumK_bd hp K j (by omega)
    simp only [hp] at hap
    have HAP := hide hap
    have HR := Lib.hid (sheetsL_yes (K := K) hp)
    have HL := Lib.hid hl
    have HBD := hide hbd
    clear hap hp hl hbd
    go_enter Tryz.func49, Tryz.ntmps49
    go_wp2
    go_loopw [5, 6] (fun q i wr => ∃ (j : Nat) (x : Int), j ≤ n ∧ i = .int .i64 j ∧ q = .int .i64 x ∧ Hid (x = sumK pp K j) ∧ Below w.heap.size w wr) (fun _ i _ => n - (intOf i).toNat)
    case atStart => exact ⟨0, 0, Nat.zero_le _, rfl, rfl, rfl, Below.refl _ _⟩
    case round =>
      obtain ⟨j, x, hj, rfl, rfl, HX, hb⟩ := hrel
      have hzr := hb.size
      have hx := (unhide HBD) j hj
      rw [← HX.out] at hx
      by_cases hlt : j < n
      · go_wp2_with fail
        refine (unhide HAP _ hb).mono ?_
        rintro e w1 ⟨rfl, hb1⟩
        have hbw1 : Below w.heap.size w w1 := hb.trans (hb1.mono hb.size)
        obtain ⟨hk1, ad, rfl, hab, hc0, hc1, hc2⟩ := (hS.below (hbw1.mono hB)).at_ hlt
        have hpb := papOk_at HP.out (List.getElem_mem hk1)
        have hwx : IntKind.i64.wrap (x + pp[j].s) = x + pp[j].s := by rw [IntKind.wrap_i64]; omega
        by_cases hk : pp[j].k = K
        · have HS := Lib.hid (sumK_yes hk1 hk)
          go_wp2
          go_roundw
          case rel => exact ⟨j + 1, x + pp[j].s, by omega, by go_num, rfl, by unfold Hid; rw [HS.out, HX.out], hbw1⟩
          case measure => simp [intOf]; omega
        · have HS := Lib.hid (sumK_no hk1 hk)
          go_wp2
          go_roundw
          case rel => exact ⟨j + 1, x, by omega, by go_num, rfl, by unfold Hid; rw [HS.out, HX.out], hbw1⟩
          case measure => simp [intOf]; omega
      · have hjn : j = n := by omega
        have HF : Hid (x = sheetsL pp K) := by unfold Hid; rw [HR.out, HX.out, HL.out, hjn]
        clear hjn
        go_wp2
        go_ret
        exact ⟨ret_int HF.out, hb⟩
end Go.Proofs.YtlimlolciekimaaGreatDoor
namespace Go.Proofs.YtlimlolciekimaaGreatDoor
open Go.ChangeShapes Go.WideShapes Go.ChangeAt Go.RowKit
set_option linter.unusedVariables false
set_option linter.unusedSimpArgs false
set_option maxRecDepth 10000
def useN (pp : List PPaper) (K x : Int) : Nat → List PPaper × Int
  | 0 => (pp, x)
  | j + 1 => if (pAt pp j).k = K then ((useN pp K x j).1.set j ⟨(pAt pp j).k, (pAt pp j).g, (pAt pp j).s - min (pAt pp j).s (useN pp K x j).2⟩, (useN pp K x j).2 - min (pAt pp j).s (useN pp K x j).2) else useN pp K x j
def useRes (pp : List PPaper) (K x : Int) : List PPaper × Bool :=
  if pp.length ≤ 20 ∧ papOk pp = true ∧ 0 ≤ x ∧ x ≤ sheetsL pp K then ((useN pp K x pp.length).1, true) else (pp, false)
def UPapB (pp : List PPaper) (b : Bool) (w : World) (e : Ending) (w' : World) : Prop :=
  ∃ A c, e = .returned (.tuple #[.slice A pp.length c, .bool b]) ∧ OwnP w' w.heap.size w'.heap.size A c pp ∧ Below w.heap.size w w'
end Go.Proofs.YtlimlolciekimaaGreatDoor
namespace Go.Proofs.YtlimlolciekimaaGreatDoor
open Go.ChangeShapes Go.WideShapes Go.ChangeAt Go.RowKit
set_option linter.unusedVariables false
set_option linter.unusedSimpArgs false
set_option maxRecDepth 10000
theorem u_toPaperS (pp : List PPaper) (B : Nat) (A : Option Addr) (c : Nat) (w : World) (hS : Papers w B A pp.length pp) (hB : B ≤ w.heap.size) :
    Calls Tryz.prog 53 #[.slice A pp.length c] w fun e w' => ∃ A' c', e = .returned (.slice A' pp.length c') ∧ OwnP w' w.heap.size w'.heap.size A' c' pp ∧ Below w.heap.size w w' :=
  (l_toPaperS B A _ c pp w hS hB).mono fun _ _ h => by
    obtain ⟨A', c', he, ho, hb⟩ := h
    exact ⟨A', c', he, OwnP.of ho (Nat.le_refl _), hb⟩
theorem u_toItemS2 (P : List PItem) (B : Nat) (A : Option Addr) (c : Nat) (L : List RItem) (w : World) (hp : plI L = P) (hS : Items w B A P.length L) (hB : B ≤ w.heap.size) :
    Calls Tryz.prog 52 #[.slice A P.length c] w (UItems P w) := by
  have hl : L.length = P.length := hS.len
  have h := u_toItemS P B A c L w hp (by rw [hl]; exact hS) hB
  rw [hl] at h
  exact h
set_option maxHeartbeats 3200000 in
theorem u_toWorkshop (d1 f1 : Int) (ss1 : List ByteArray) (d2 f2 : Int) (ss2 : List ByteArray) (st : List PStep) (P : List PItem) (pp : List PPaper) (m : Int) (B : Nat) (A1 A2 A3 A4 A5 : Option Addr) (c1 c2 c3 c4 c5 : Nat) (w : World) (hS : RdWork0 w B A1 A2 A3 A4 A5 ⟨d1, f1, ss1, d2, f2, ss2, st⟩ P pp) (hB : B ≤ w.heap.size) :
    Calls Tryz.prog 18 #[.agg #[.int .i64 d1, .int .i64 f1, .slice A1 ss1.length c1, .int .i64 d2, .int .i64 f2, .slice A2 ss2.length c2, .slice A3 st.length c3, .slice A4 P.length c4, .slice A5 pp.length c5, .int .i64 m]] w (UWork d1 f1 ss1 d2 f2 ss2 st P pp m w) := by
  obtain ⟨L, hpl, hL⟩ := hS.i
  have HPL := Lib.hid hpl
  have hlen : L.length = P.length := hL.len
  clear hpl
  go_enter Tryz.func18, Tryz.ntmps18
  go_wp2_with fail
  have hb0 : Below w.heap.size w (((w.alloc (.cells #[.int .i64 d1, .int .i64 f1, .slice A1 ss1.length c1, .int .i64 d2, .int .i64 f2, .slice A2 ss2.length c2, .slice A3 st.length c3, .slice A4 P.length c4, .slice A5 pp.length c5, .int .i64 m] 51)).alloc (.cells #[.int .i64 0, .int .i64 0, .slice none 0 0, .int .i64 0, .int .i64 0, .slice none 0 0, .slice none 0 0, .slice none 0 0, .slice none 0 0, .int .i64 0] 33)).alloc (.cells #[.int .i64 0, .int .i64 0, .slice none 0 0, .int .i64 0, .int .i64 0, .slice none 0 0, .slice none 0 0, .slice none 0 0, .slice none 0 0, .int .i64 0] 33)) := (((Below.refl _ _).alloc (Nat.le_refl _) _).alloc (by simp) _).alloc (by simp; omega) _
  have hka : (((w.alloc (.cells #[.int .i64 d1, .int .i64 f1, .slice A1 ss1.length c1, .int .i64 d2, .int .i64 f2, .slice A2 ss2.length c2, .slice A3 st.length c3, .slice A4 P.length c4, .slice A5 pp.length c5, .int .i64 m] 51)).alloc (.cells #[.int .i64 0, .int .i64 0, .slice none 0 0, .int .i64 0, .int .i64 0, .slice none 0 0, .slice none 0 0, .slice none 0 0, .slice none 0 0, .int .i64 0] 33)).alloc (.cells #[.int .i64 0, .int .i64 0, .slice none 0 0, .int .i64 0, .int .i64 0, .slice none 0 0, .slice none 0 0, .slice none 0 0, .slice none 0 0, .int .i64 0] 33)).heap[w.heap.size]? = some (.cells #[.int .i64 d1, .int .i64 f1, .slice A1 ss1.length c1, .int .i64 d2, .int .i64 f2, .slice A2 ss2.length c2, .slice A3 st.length c3, .slice A4 P.length c4, .slice A5 pp.length c5, .int .i64 m] 51 (0, 0)) := blk_alloc (blk_alloc (blk_new _ _) _) _
  have hko : (((w.alloc (.cells #[.int .i64 d1, .int .i64 f1, .slice A1 ss1.length c1, .int .i64 d2, .int .i64 f2, .slice A2 ss2.length c2, .slice A3 st.length c3, .slice A4 P.length c4, .slice A5 pp.length c5, .int .i64 m] 51)).alloc (.cells #[.int .i64 0, .int .i64 0, .slice none 0 0, .int .i64 0, .int .i64 0, .slice none 0 0, .slice none 0 0, .slice none 0 0, .slice none 0 0, .int .i64 0] 33)).alloc (.cells #[.int .i64 0, .int .i64 0, .slice none 0 0, .int .i64 0, .int .i64 0, .slice none 0 0, .slice none 0 0, .slice none 0 0, .slice none 0 0, .int .i64 0] 33)).heap[w.heap.size + 1 + 1]? = some (.cells #[.int .i64 0, .int .i64 0, .slice none 0 0, .int .i64 0, .int .i64 0, .slice none 0 0, .slice none 0 0, .slice none 0 0, .slice none 0 0, .int .i64 0] 33 (0, 0)) := blk_new_at _ _ (by simp)
  have hkr : (((w.alloc (.cells #[.int .i64 d1, .int .i64 f1, .slice A1 ss1.length c1, .int .i64 d2, .int .i64 f2, .slice A2 ss2.length c2, .slice A3 st.length c3, .slice A4 P.length c4, .slice A5 pp.length c5, .int .i64 m] 51)).alloc (.cells #[.int .i64 0, .int .i64 0, .slice none 0 0, .int .i64 0, .int .i64 0, .slice none 0 0, .slice none 0 0, .slice none 0 0, .slice none 0 0, .int .i64 0] 33)).alloc (.cells #[.int .i64 0, .int .i64 0, .slice none 0 0, .int .i64 0, .int .i64 0, .slice none 0 0, .slice none 0 0, .slice none 0 0, .slice none 0 0, .int .i64 0] 33)).heap[w.heap.size + 1]? = some (.cells #[.int .i64 0, .int .i64 0, .slice none 0 0, .int .i64 0, .int .i64 0, .slice none 0 0, .slice none 0 0, .slice none 0 0, .slice none 0 0, .int .i64 0] 33 (0, 0)) := blk_alloc (blk_new_at _ _ (by simp)) _
  generalize (((w.alloc (.cells #[.int .i64 d1, .int .i64 f1, .slice A1 ss1.length c1, .int .i64 d2, .int .i64 f2, .slice A2 ss2.length c2, .slice A3 st.length c3, .slice A4 P.length c4, .slice A5 pp.length c5, .int .i64 m] 51)).alloc (.cells #[.int .i64 0, .int .i64 0, .slice none 0 0, .int .i64 0, .int .i64 0, .slice none 0 0, .slice none 0 0, .slice none 0 0, .slice none 0 0, .int .i64 0] 33)).alloc (.cells #[.int .i64 0, .int .i64 0, .slice none 0 0, .int .i64 0, .int .i64 0, .slice none 0 0, .slice none 0 0, .slice none 0 0, .slice none 0 0, .int .i64 0] 33)) = w0 at *
  have hs0 : w.heap.size + 3 ≤ w0.heap.size := by have := blk_lt hko; omega
  refine (u_toDraftW d1 f1 ss1 d2 f2 ss2 st B A1 A2 A3 c1 c2 c3 w0 (hS.d.below (hb0.mono hB)) (by omega)).mono ?_
  rintro e w1 ⟨B1, e1, B2, e2, B3, e3, rfl, ho1, hb1⟩
  have hka1 := blk_next hka hb1
  have hko1 := blk_next hko hb1
  have hkr1 := blk_next hkr hb1
  have hbw1 : Below w.heap.size w w1 := hb0.trans (hb1.mono (by omega))
  have hs1 := hb1.size
  clear hka hko hkr hb1 hb0
  obtain ⟨hx0, hx1, hx2, hx3, hx4, hx5, hx6, hx7, hx8, hx9, hxl⟩ := blk10 hka1
  obtain ⟨hy0, hy1, hy2, hy3, hy4, hy5, hy6, hy7, hy8, hy9, hyl⟩ := blk10 hko1
  obtain ⟨⟨hv0, hv1, hv2, hv3, hv4⟩, hv5, hv6, hv7, hv8, hv9⟩ := blk10f hko1
  go_wp2_with fail
  clear hx0 hx1 hx2 hx3 hx4 hx5 hx6 hx7 hx8 hx9 hxl
  clear hy0 hy1 hy2 hy3 hy4 hy5 hy6 hy7 hy8 hy9 hyl
  clear hv0 hv1 hv2 hv3 hv4 hv5 hv6 hv7 hv8 hv9
  have hkos := blk10_set7 hko1 (.int .i64 d1) (.int .i64 f1) (.slice B1 ss1.length e1) (.int .i64 d2) (.int .i64 f2) (.slice B2 ss2.length e2) (.slice B3 st.length e3)
  have hkas := blk_other7 hka1 (show w.heap.size ≠ w.heap.size + 1 + 1 by omega) (.int .i64 d1) (.int .i64 f1) (.slice B1 ss1.length e1) (.int .i64 d2) (.int .i64 f2) (.slice B2 ss2.length e2) (.slice B3 st.length e3)
  have hkrs := blk_other7 hkr1 (show w.heap.size + 1 ≠ w.heap.size + 1 + 1 by omega) (.int .i64 d1) (.int .i64 f1) (.slice B1 ss1.length e1) (.int .i64 d2) (.int .i64 f2) (.slice B2 ss2.length e2) (.slice B3 st.length e3)
  have hos := ho1.box hko1 (by decide) (only7 (.int .i64 d1) (.int .i64 f1) (.slice B1 ss1.length e1) (.int .i64 d2) (.int .i64 f2) (.slice B2 ss2.length e2) (.slice B3 st.length e3))
  have hbs : Below w.heap.size w (((((((w1.setCell ⟨w.heap.size + 1 + 1, 0, none⟩ (.int .i64 d1)).setCell ⟨w.heap.size + 1 + 1, 1, none⟩ (.int .i64 f1)).setCell ⟨w.heap.size + 1 + 1, 2, none⟩ (.slice B1 ss1.length e1)).setCell ⟨w.heap.size + 1 + 1, 3, none⟩ (.int .i64 d2)).setCell ⟨w.heap.size + 1 + 1, 4, none⟩ (.int .i64 f2)).setCell ⟨w.heap.size + 1 + 1, 5, none⟩ (.slice B2 ss2.length e2)).setCell ⟨w.heap.size + 1 + 1, 6, none⟩ (.slice B3 st.length e3)) := only_below_B hbw1 (only7 _ _ _ _ _ _ _)
  have hss : (((((((w1.setCell ⟨w.heap.size + 1 + 1, 0, none⟩ (.int .i64 d1)).setCell ⟨w.heap.size + 1 + 1, 1, none⟩ (.int .i64 f1)).setCell ⟨w.heap.size + 1 + 1, 2, none⟩ (.slice B1 ss1.length e1)).setCell ⟨w.heap.size + 1 + 1, 3, none⟩ (.int .i64 d2)).setCell ⟨w.heap.size + 1 + 1, 4, none⟩ (.int .i64 f2)).setCell ⟨w.heap.size + 1 + 1, 5, none⟩ (.slice B2 ss2.length e2)).setCell ⟨w.heap.size + 1 + 1, 6, none⟩ (.slice B3 st.length e3)).heap.size = w1.heap.size := by simp [World.setCell]
  clear hbw1 hka1 hko1 hkr1 ho1
  generalize (((((((w1.setCell ⟨w.heap.size + 1 + 1, 0, none⟩ (.int .i64 d1)).setCell ⟨w.heap.size + 1 + 1, 1, none⟩ (.int .i64 f1)).setCell ⟨w.heap.size + 1 + 1, 2, none⟩ (.slice B1 ss1.length e1)).setCell ⟨w.heap.size + 1 + 1, 3, none⟩ (.int .i64 d2)).setCell ⟨w.heap.size + 1 + 1, 4, none⟩ (.int .i64 f2)).setCell ⟨w.heap.size + 1 + 1, 5, none⟩ (.slice B2 ss2.length e2)).setCell ⟨w.heap.size + 1 + 1, 6, none⟩ (.slice B3 st.length e3)) = w2 at *
  refine (u_toItemS2 P B A4 c4 L w2 HPL.out (hL.below (hbs.mono hB)) (by omega)).mono ?_
  rintro e w3 ⟨B4, e4, L3, rfl, hp3, hi3, hb3⟩
  have HP3 := Lib.hid hp3
  have hka3 := blk_next hkas hb3
  have hko3 := blk_next hkos hb3
  have hkr3 := blk_next hkrs hb3
  have ho3 := hos.below hb3
  have hbw3 : Below w.heap.size w w3 := hbs.trans (hb3.mono (by omega))
  have hs3 := hb3.size
  clear hkas hkos hkrs hos hbs hb3 hp3
  obtain ⟨hx0, hx1, hx2, hx3, hx4, hx5, hx6, hx7, hx8, hx9, hxl⟩ := blk10 hka3
  obtain ⟨hy0, hy1, hy2, hy3, hy4, hy5, hy6, hy7, hy8, hy9, hyl⟩ := blk10 hko3
  obtain ⟨⟨hv0, hv1, hv2, hv3, hv4⟩, hv5, hv6, hv7, hv8, hv9⟩ := blk10f hko3
  go_wp2_with fail
  clear hx0 hx1 hx2 hx3 hx4 hx5 hx6 hx7 hx8 hx9 hxl
  clear hy0 hy1 hy2 hy3 hy4 hy5 hy6 hy7 hy8 hy9 hyl
  clear hv0 hv1 hv2 hv3 hv4 hv5 hv6 hv7 hv8 hv9
  have hkos : (w3.setCell ⟨w.heap.size + 1 + 1, 7, none⟩ (.slice B4 P.length e4)).heap[w.heap.size + 1 + 1]? = some (.cells #[.int .i64 d1, .int .i64 f1, .slice B1 ss1.length e1, .int .i64 d2, .int .i64 f2, .slice B2 ss2.length e2, .slice B3 st.length e3, .slice B4 P.length e4, .slice none 0 0, .int .i64 0] 33 (0, 0)) := by have := blk_set hko3 7 (.slice B4 P.length e4); simpa using this
  have hkas := blk_other (p := ⟨w.heap.size + 1 + 1, 7, none⟩) hka3 (show w.heap.size ≠ w.heap.size + 1 + 1 by omega) (.slice B4 P.length e4)
  have hkrs := blk_other (p := ⟨w.heap.size + 1 + 1, 7, none⟩) hkr3 (show w.heap.size + 1 ≠ w.heap.size + 1 + 1 by omega) (.slice B4 P.length e4)
  have hos := ho3.box hko3 (by decide) (only1 (i := 7) (.slice B4 P.length e4))
  have his := hi3.box hko3 (by decide) (only1 (i := 7) (.slice B4 P.length e4))
  have hbs : Below w.heap.size w (w3.setCell ⟨w.heap.size + 1 + 1, 7, none⟩ (.slice B4 P.length e4)) := only_below_B hbw3 (only1 _)
  have hss3 : (w3.setCell ⟨w.heap.size + 1 + 1, 7, none⟩ (.slice B4 P.length e4)).heap.size = w3.heap.size := by simp [World.setCell]
  clear hbw3 hka3 hko3 hkr3 ho3 hi3
  generalize (w3.setCell ⟨w.heap.size + 1 + 1, 7, none⟩ (.slice B4 P.length e4)) = w4 at *
  refine (u_toPaperS pp B A5 c5 w4 (hS.p.below (hbs.mono hB)) (by omega)).mono ?_
  rintro e w5 ⟨B5, e5, rfl, hp5, hb5⟩
  have hka5 := blk_next hkas hb5
  have hko5 := blk_next hkos hb5
  have hkr5 := blk_next hkrs hb5
  have ho5 := hos.below hb5
  have hi5 := his.below hb5
  have hbw5 : Below w.heap.size w w5 := hbs.trans (hb5.mono (by omega))
  have hs5 := hb5.size
  clear hkas hkos hkrs hos his hbs hb5
  obtain ⟨hx0, hx1, hx2, hx3, hx4, hx5, hx6, hx7, hx8, hx9, hxl⟩ := blk10 hka5
  obtain ⟨hy0, hy1, hy2, hy3, hy4, hy5, hy6, hy7, hy8, hy9, hyl⟩ := blk10 hko5
  obtain ⟨⟨hv0, hv1, hv2, hv3, hv4⟩, hv5, hv6, hv7, hv8, hv9⟩ := blk10f hko5
  obtain ⟨hr0, hr1, hr2, hr3, hr4, hr5, hr6, hr7, hr8, hr9, hrl⟩ := blk10 hkr5
  obtain ⟨⟨hu0, hu1, hu2, hu3, hu4⟩, hu5, hu6, hu7, hu8, hu9⟩ := blk10f hkr5
  go_wp2
  refine bodyPost_ret (v := .agg #[.int .i64 d1, .int .i64 f1, .slice B1 ss1.length e1, .int .i64 d2, .int .i64 f2, .slice B2 ss2.length e2, .slice B3 st.length e3, .slice B4 P.length e4, .slice B5 pp.length e5, .int .i64 m]) (by simp [results, Tryz.results18, go_sem, *]) rfl ?_
  have hbxo := boxAt_of hko5
  have hbxr := boxAt_of hkr5
  have hbx : Boxy w5 ((((((((((((w5.setCell ⟨w.heap.size + 1 + 1, 8, none⟩ (.slice B5 pp.length e5)).setCell ⟨w.heap.size + 1 + 1, 9, none⟩ (.int .i64 m)).setCell ⟨w.heap.size + 1, 0, none⟩ (.int .i64 d1)).setCell ⟨w.heap.size + 1, 1, none⟩ (.int .i64 f1)).setCell ⟨w.heap.size + 1, 2, none⟩ (.slice B1 ss1.length e1)).setCell ⟨w.heap.size + 1, 3, none⟩ (.int .i64 d2)).setCell ⟨w.heap.size + 1, 4, none⟩ (.int .i64 f2)).setCell ⟨w.heap.size + 1, 5, none⟩ (.slice B2 ss2.length e2)).setCell ⟨w.heap.size + 1, 6, none⟩ (.slice B3 st.length e3)).setCell ⟨w.heap.size + 1, 7, none⟩ (.slice B4 P.length e4)).setCell ⟨w.heap.size + 1, 8, none⟩ (.slice B5 pp.length e5)).setCell ⟨w.heap.size + 1, 9, none⟩ (.int .i64 m)) := (by repeat (first | (with_reducible exact Boxy.refl _) | (with_reducible refine Boxy.drew ?_) | (with_reducible refine Boxy.drewN ?_ _) | (with_reducible refine Boxy.alloc ?_ _) | ((with_reducible refine Boxy.setCell ?_ ?hbs _); (case hbs => first | (with_reducible exact .inl (by assumption)) | exact .inl (by assumption) | exact .inr (by simp) | exact .inr (by simp; omega)))))
  refine ⟨B1, e1, B2, e2, B3, e3, B4, e4, B5, e5, rfl, OwnW.mk3 (ho5.boxy hbx) HP3.out (hi5.boxy hbx) (hp5.boxy hbx) (by simp [World.setCell]; omega) (by omega), bel⟩
end Go.Proofs.YtlimlolciekimaaGreatDoor
namespace Go.Proofs.YtlimlolciekimaaGreatDoor
open Go.ChangeShapes Go.WideShapes Go.ChangeAt Go.RowKit
set_option linter.unusedVariables false
set_option linter.unusedSimpArgs false
set_option maxRecDepth 10000
def szPap (pp : List PPaper) (left : Int) : Int := if left - pp.length < 0 then -1 else left - pp.length
def szW (D : PDraft) (P : List PItem) (pp : List PPaper) (left : Int) : Int :=
  if szD D left < 0 then -1 else if szItems P (szD D left) < 0 then -1 else szPap pp (szItems P (szD D left))
theorem szPap_ub (pp : List PPaper) (l : Int) (h : l ≤ 1048576) : szPap pp l ≤ 1048576 := by unfold szPap; split <;> omega
theorem szPap_ge (pp : List PPaper) (l : Int) : -1 ≤ szPap pp l := by unfold szPap; split <;> omega
theorem szW_ub (D : PDraft) (P : List PItem) (pp : List PPaper) (l : Int) (h : l ≤ 1048576) : szW D P pp l ≤ 1048576 := by
  unfold szW
  split
  · omega
  · split
    · omega
    · exact szPap_ub _ _ (szItems_ub _ _ (szD_ub _ _ h))
structure RawWork (w : World) (B : Nat) (A1 A2 A3 A4 A5 : Option Addr) (D : PDraft) (P : List PItem) (pp : List PPaper) : Prop where
  d : RawDraft w B A1 A2 A3 D
  i : ∃ L, plI L = P ∧ RawItems w B A4 L
  p : Reads w B 3 A5 pp.length (pp.flatMap paperCells)
  pn : pp.length ≤ 9223372036854775807
theorem RawWork.below {w w' : World} {B : Nat} {A1 A2 A3 A4 A5 : Option Addr} {D : PDraft} {P : List PItem} {pp : List PPaper} (h : RawWork w B A1 A2 A3 A4 A5 D P pp) (hb : Below B w w') : RawWork w' B A1 A2 A3 A4 A5 D P pp := ⟨h.d.below hb, h.i.elim fun L q => ⟨L, q.1, q.2.below hb⟩, h.p.below hb, h.pn⟩
theorem RdWork0.raw {w : World} {B : Nat} {A1 A2 A3 A4 A5 : Option Addr} {D : PDraft} {P : List PItem} {pp : List PPaper} (h : RdWork0 w B A1 A2 A3 A4 A5 D P pp) : RawWork w B A1 A2 A3 A4 A5 D P pp :=
  ⟨h.d.raw, h.i.elim fun L q => ⟨L, q.1, Items.raw (by have hl := q.2.len; rw [hl]; exact q.2)⟩, h.p.rd, by have := h.p.nb; omega⟩
theorem work_of_sz {w : World} {A1 A2 A3 A4 A5 : Option Addr} {D : PDraft} {P : List PItem} {pp : List PPaper} {l : Int} (h : RawWork w w.heap.size A1 A2 A3 A4 A5 D P pp) (hl : l ≤ 1048576) (hz : 0 ≤ szW D P pp l) : RdWork0 w w.heap.size A1 A2 A3 A4 A5 D P pp ∧ OkWork D P pp 1048576 := by
  unfold szW at hz
  split at hz
  · omega
  · split at hz
    · omega
    · obtain ⟨h1, n1⟩ := draft_of_sz h.d hl (by omega)
      have u1 := szD_ub D l hl
      obtain ⟨L, rfl, hL⟩ := h.i
      obtain ⟨h2, n2⟩ := items_of_sz hL u1 (by omega)
      have u2 := szItems_ub (plI L) _ u1
      unfold szPap at hz
      split at hz
      · omega
      · exact ⟨⟨h1, ⟨L, rfl, by rw [plI_len]; exact h2⟩, ⟨h.p, by omega⟩⟩, ⟨n1, n2, by omega⟩⟩
set_option maxHeartbeats 400000 in
theorem l_szPaperS (pp : List PPaper) (A : Option Addr) (c : Nat) (left : Int) (w : World) (hn : pp.length ≤ 9223372036854775807) (h0 : -1 ≤ left) (h1 : left ≤ 1048576) :
    Calls Tryz.prog 46 #[.slice A pp.length c, .int .i64 left] w fun e w' => e = .returned (.int .i64 (szPap pp left)) ∧ Below w.heap.size w w' := by
  by_cases h3 : left - pp.length < 0
  · have HR : Hid (szPap pp left = -1) := by unfold Hid szPap; rw [if_pos h3]
    have hw : IntKind.i64.wrap (left - pp.length) = left - pp.length := by rw [IntKind.wrap_i64]; omega
    go_enter Tryz.func46, Tryz.ntmps46
    go_wp2
    go_ret
    exact ⟨ret_int HR.out.symm, bel⟩
  · have HR : Hid (szPap pp left = left - pp.length) := by unfold Hid szPap; rw [if_neg h3]
    have hw : IntKind.i64.wrap (left - pp.length) = left - pp.length := by rw [IntKind.wrap_i64]; omega
    go_enter Tryz.func46, Tryz.ntmps46
    go_wp2
    go_ret
    exact ⟨ret_int HR.out.symm, bel⟩
theorem l_szItemS2 (P : List PItem) (B : Nat) (A : Option Addr) (c : Nat) (L : List RItem) (left : Int) (w : World) (hp : plI L = P) (hR : RawItems w B A L) (hB : B ≤ w.heap.size) (h0 : -1 ≤ left) (h1 : left ≤ 1048576) :
    Calls Tryz.prog 45 #[.slice A P.length c, .int .i64 left] w fun e w' => e = .returned (.int .i64 (szItems P left)) ∧ Below w.heap.size w w' := by
  subst hp
  have h := l_szItemS B A c L left w hR hB h0 h1
  rw [← plI_len L] at h
  exact h
set_option maxHeartbeats 3200000 in
theorem l_szWorkshop (d1 f1 : Int) (ss1 : List ByteArray) (d2 f2 : Int) (ss2 : List ByteArray) (st : List PStep) (P : List PItem) (pp : List PPaper) (m : Int) (B : Nat) (A1 A2 A3 A4 A5 : Option Addr) (c1 c2 c3 c4 c5 : Nat) (left : Int) (w : World) (hB : B ≤ w.heap.size) (hR : RawWork w B A1 A2 A3 A4 A5 ⟨d1, f1, ss1, d2, f2, ss2, st⟩ P pp) (h0 : -1 ≤ left) (h1 : left ≤ 1048576) :
    Calls Tryz.prog 16 #[.agg #[.int .i64 d1, .int .i64 f1, .slice A1 ss1.length c1, .int .i64 d2, .int .i64 f2, .slice A2 ss2.length c2, .slice A3 st.length c3, .slice A4 P.length c4, .slice A5 pp.length c5, .int .i64 m], .int .i64 left] w fun e w' => e = .returned (.int .i64 (szW ⟨d1, f1, ss1, d2, f2, ss2, st⟩ P pp left)) ∧ Below w.heap.size w w' := by
  obtain ⟨L, hp, hL⟩ := hR.i
  have u1 := szD_ub ⟨d1, f1, ss1, d2, f2, ss2, st⟩ left h1
  have g1 : -1 ≤ szD ⟨d1, f1, ss1, d2, f2, ss2, st⟩ left := by
    rcases Int.lt_or_le (szD ⟨d1, f1, ss1, d2, f2, ss2, st⟩ left) 0 with h | h
    · rw [szDraft_n h]; omega
    · omega
  have u2 := szItems_ub P (szD ⟨d1, f1, ss1, d2, f2, ss2, st⟩ left) u1
  have g2 := szItems_ge P (szD ⟨d1, f1, ss1, d2, f2, ss2, st⟩ left) g1
  have g3 := szPap_ge pp (szItems P (szD ⟨d1, f1, ss1, d2, f2, ss2, st⟩ left))
  have hc1 := fun (W : World) (h : Below w.heap.size w W) => l_szDraft2 ⟨d1, f1, ss1, d2, f2, ss2, st⟩ B A1 A2 A3 c1 c2 c3 left W (Nat.le_trans hB h.size) (hR.d.below (h.mono hB)) h0 h1
  have hc2 := fun (W : World) (h : Below w.heap.size w W) => l_szItemS2 P B A4 c4 L (szD ⟨d1, f1, ss1, d2, f2, ss2, st⟩ left) W hp (hL.below (h.mono hB)) (Nat.le_trans hB h.size) g1 u1
  have hc3 := fun (W : World) => l_szPaperS pp A5 c5 (szItems P (szD ⟨d1, f1, ss1, d2, f2, ss2, st⟩ left)) W hR.pn g2 u2
  unfold szW
  generalize szPap pp (szItems P (szD ⟨d1, f1, ss1, d2, f2, ss2, st⟩ left)) = q3 at *
  generalize szItems P (szD ⟨d1, f1, ss1, d2, f2, ss2, st⟩ left) = q2 at *
  generalize szD ⟨d1, f1, ss1, d2, f2, ss2, st⟩ left = q1 at *
  have HC1 := hide hc1
  have HC2 := hide hc2
  have HC3 := hide hc3
  clear hc1 hc2 hc3 hL hp hR
  have hka := blk_new w (.cells #[.int .i64 d1, .int .i64 f1, .slice A1 ss1.length c1, .int .i64 d2, .int .i64 f2, .slice A2 ss2.length c2, .slice A3 st.length c3, .slice A4 P.length c4, .slice A5 pp.length c5, .int .i64 m] 51)
  have hb0 : Below w.heap.size w (w.alloc (.cells #[.int .i64 d1, .int .i64 f1, .slice A1 ss1.length c1, .int .i64 d2, .int .i64 f2, .slice A2 ss2.length c2, .slice A3 st.length c3, .slice A4 P.length c4, .slice A5 pp.length c5, .int .i64 m] 51)) := (Below.refl _ _).alloc (Nat.le_refl _) _
  by_cases n1 : q1 < 0
  · rw [if_pos n1]
    go_enter Tryz.func16, Tryz.ntmps16
    go_wp2_with fail
    refine (unhide HC1 _ hb0).mono ?_
    rintro e w1 ⟨rfl, hb1⟩
    have hbw1 : Below w.heap.size w w1 := hb0.trans (hb1.mono hb0.size)
    go_wp2
    go_ret
    exact ⟨rfl, hbw1⟩
  · rw [if_neg n1]
    by_cases n2 : q2 < 0
    · rw [if_pos n2]
      go_enter Tryz.func16, Tryz.ntmps16
      go_wp2_with fail
      refine (unhide HC1 _ hb0).mono ?_
      rintro e w1 ⟨rfl, hb1⟩
      have hbw1 : Below w.heap.size w w1 := hb0.trans (hb1.mono hb0.size)
      obtain ⟨hx0, hx1, hx2, hx3, hx4, hx5, hx6, hx7, hx8, hx9, hxl⟩ := blk10 (blk_next hka hb1)
      go_wp2_with fail
      refine (unhide HC2 _ hbw1).mono ?_
      rintro e w2 ⟨rfl, hb2⟩
      have hbw2 : Below w.heap.size w w2 := hbw1.trans (hb2.mono hbw1.size)
      go_wp2
      go_ret
      exact ⟨rfl, hbw2⟩
    · rw [if_neg n2]
      by_cases n3 : q3 < 0
      · have h3 : q3 = -1 := by omega
        have H3 := Lib.hid h3
        clear h3
        go_enter Tryz.func16, Tryz.ntmps16
        go_wp2_with fail
        refine (unhide HC1 _ hb0).mono ?_
        rintro e w1 ⟨rfl, hb1⟩
        have hbw1 : Below w.heap.size w w1 := hb0.trans (hb1.mono hb0.size)
        obtain ⟨hx0, hx1, hx2, hx3, hx4, hx5, hx6, hx7, hx8, hx9, hxl⟩ := blk10 (blk_next hka hb1)
        go_wp2_with fail
        clear hx0 hx1 hx2 hx3 hx4 hx5 hx6 hx7 hx8 hx9 hxl
        refine (unhide HC2 _ hbw1).mono ?_
        rintro e w2 ⟨rfl, hb2⟩
        have hbw2 : Below w.heap.size w w2 := hbw1.trans (hb2.mono hbw1.size)
        obtain ⟨hy0, hy1, hy2, hy3, hy4, hy5, hy6, hy7, hy8, hy9, hyl⟩ := blk10 (blk_next (blk_next hka hb1) hb2)
        go_wp2_with fail
        refine (unhide HC3 _).mono ?_
        rintro e w3 ⟨rfl, hb3⟩
        have hbw3 : Below w.heap.size w w3 := hbw2.trans (hb3.mono hbw2.size)
        go_wp2
        go_ret
        exact ⟨ret_int H3.out.symm, hbw3⟩
      · go_enter Tryz.func16, Tryz.ntmps16
        go_wp2_with fail
        refine (unhide HC1 _ hb0).mono ?_
        rintro e w1 ⟨rfl, hb1⟩
        have hbw1 : Below w.heap.size w w1 := hb0.trans (hb1.mono hb0.size)
        obtain ⟨hx0, hx1, hx2, hx3, hx4, hx5, hx6, hx7, hx8, hx9, hxl⟩ := blk10 (blk_next hka hb1)
        go_wp2_with fail
        clear hx0 hx1 hx2 hx3 hx4 hx5 hx6 hx7 hx8 hx9 hxl
        refine (unhide HC2 _ hbw1).mono ?_
        rintro e w2 ⟨rfl, hb2⟩
        have hbw2 : Below w.heap.size w w2 := hbw1.trans (hb2.mono hbw1.size)
        obtain ⟨hy0, hy1, hy2, hy3, hy4, hy5, hy6, hy7, hy8, hy9, hyl⟩ := blk10 (blk_next (blk_next hka hb1) hb2)
        go_wp2_with fail
        refine (unhide HC3 _).mono ?_
        rintro e w3 ⟨rfl, hb3⟩
        have hbw3 : Below w.heap.size w w3 := hbw2.trans (hb3.mono hbw2.size)
        go_wp2
        go_ret
        exact ⟨rfl, hbw3⟩
theorem cells_lworkW : Tryz.prog.cellsOf 51 = 10 := by kernel_rfl
theorem cells_litemsW : Tryz.prog.cellsOf 48 = 1 := by kernel_rfl
theorem cells_lpapersW : Tryz.prog.cellsOf 49 = 1 := by kernel_rfl
theorem cells_lpaperW : Tryz.prog.cellsOf 136 = 3 := by kernel_rfl
theorem trod_draftW {H : Type} {enc : TypeId × Value → H} {W : World} {n : Nat} {k0 k1 k2 k3 k4 k5 k6 : Value} {x : DataW H × List MemPlace} (hf' : DataW.trod enc Tryz.prog W 0 (fun _ => true) true n 47 [k0, k1, k2, k3, k4, k5, k6] = some x) :
    ∃ (d1 f1 : Int) (ss1 : List ByteArray) (d2 f2 : Int) (ss2 : List ByteArray) (st : List PStep) (A1 A2 A3 : Option Addr) (c1 c2 c3 : Nat), k0 = .int .i64 d1 ∧ k1 = .int .i64 f1 ∧ k2 = .slice A1 ss1.length c1 ∧ k3 = .int .i64 d2 ∧ k4 = .int .i64 f2 ∧ k5 = .slice A2 ss2.length c2 ∧ k6 = .slice A3 st.length c3 ∧ RawDraft W W.heap.size A1 A2 A3 ⟨d1, f1, ss1, d2, f2, ss2, st⟩ := by
  obtain ⟨m0, y0, h0⟩ := trod_field Tryz.underlying47 hf' 0 _ rfl cells_lcard3
  obtain ⟨m1, y1, h1⟩ := trod_field Tryz.underlying47 hf' 1 _ rfl cells_lcard3
  obtain ⟨m2, y2, h2⟩ := trod_field Tryz.underlying47 hf' 2 _ rfl cells_steps
  obtain ⟨d1, f1, A1, e1, ss1, rfl, rfl, rfl, hR1, hm1, hz1⟩ := trod_card h0
  obtain ⟨d2, f2, A2, e2, ss2, rfl, rfl, rfl, hR2, hm2, hz2⟩ := trod_card h1
  obtain ⟨A3, e3, st, rfl, hR3, hm3, hz3⟩ := trod_steps h2
  unfold maxLen at hm1 hm2 hm3 hz1 hz2 hz3
  exact ⟨d1, f1, ss1, d2, f2, ss2, st, A1, A2, A3, e1, e2, e3, rfl, rfl, rfl, rfl, rfl, rfl, rfl, ⟨hR1, hR2, hR3, hm1, hm2, hm3, hz1, hz2, hz3⟩⟩
theorem trod_itemsW {H : Type} {enc : TypeId × Value → H} {W : World} {n : Nat} {k0 : Value} {x : DataW H × List MemPlace} (hf : DataW.trod enc Tryz.prog W 0 (fun _ => true) true n 48 [k0] = some x) :
    ∃ (A : Option Addr) (c : Nat) (P : List PItem), k0 = .slice A P.length c ∧ ∃ L, plI L = P ∧ RawItems W W.heap.size A L := by
  obtain ⟨A, n, c, l, hcs, hR, hl, hm, hq⟩ := reads_rows (α := RItem) (f := itemCells) (Q := fun r => Reads W W.heap.size 1 r.A r.x.ss.length (r.x.ss.map Value.string) ∧ r.x.ss.length ≤ 9223372036854775807 ∧ (∀ s ∈ r.x.ss, s.size ≤ 9223372036854775807) ∧ r.x.nm.size ≤ 9223372036854775807) itemCells_len (by omega) Tryz.underlying48 cells_litem hf (fun n cs' y hcl ht => by
    match cs', hcl with
    | [c0, c1, c2, c3], _ =>
      obtain ⟨nm, d, f, A, c, ss, rfl, rfl, rfl, rfl, hR, hm, hs, hnm⟩ := trod_item ht
      exact ⟨⟨⟨nm, d, f, ss⟩, A, c⟩, rfl, hR, hm, hs, hnm⟩)
  subst hl
  simp at hcs
  exact ⟨A, c, plI l, by rw [plI_len]; exact hcs, l, rfl, hR, hm, hq⟩
theorem trod_papersW {H : Type} {enc : TypeId × Value → H} {W : World} {n : Nat} {k0 : Value} {x : DataW H × List MemPlace} (hf : DataW.trod enc Tryz.prog W 0 (fun _ => true) true n 49 [k0] = some x) :
    ∃ (A : Option Addr) (c : Nat) (l : List PPaper), k0 = .slice A l.length c ∧ Reads W W.heap.size 3 A l.length (l.flatMap paperCells) ∧ l.length ≤ 9223372036854775807 := by
  obtain ⟨A, n, c, l, hcs, hR, hl, hm, hq⟩ := reads_rows (α := PPaper) (f := paperCells) (Q := fun _ => True) paperCells_len (by omega) Tryz.underlying49 cells_lpaperW hf (fun n cs' y hcl ht => by
    match cs', hcl with
    | [c0, c1, c2], _ =>
      obtain ⟨m0, y0, h0⟩ := trod_field Tryz.underlying136 ht 0 _ rfl cells_int
      obtain ⟨m1, y1, h1⟩ := trod_field Tryz.underlying136 ht 1 _ rfl cells_int
      obtain ⟨m2, y2, h2⟩ := trod_field Tryz.underlying136 ht 2 _ rfl cells_int
      obtain ⟨a, e0, _, _⟩ := DataW.trod_int Tryz.underlying3 h0
      obtain ⟨b, e1, _, _⟩ := DataW.trod_int Tryz.underlying3 h1
      obtain ⟨c, e2, _, _⟩ := DataW.trod_int Tryz.underlying3 h2
      simp at e0 e1 e2
      subst e0 e1 e2
      exact ⟨⟨a, b, c⟩, rfl, trivial⟩)
  subst hl
  simp at hcs
  exact ⟨A, c, l, hcs, hR, hm⟩
theorem open_work {H : Type} {enc : TypeId × Value → H} {W : World} {r : Reach} {b0 : Nat} {v : Value} {d : DataW H} {p : List MemPlace}
    (hv : Value.okWide Tryz.prog W r b0 51 v) (h : DataW.Trod enc Tryz.prog W 0 (fun _ => true) true 51 v d p) :
    ∃ (d1 f1 : Int) (ss1 : List ByteArray) (d2 f2 : Int) (ss2 : List ByteArray) (st : List PStep) (P : List PItem) (pp : List PPaper) (m : Int) (A1 A2 A3 A4 A5 : Option Addr) (c1 c2 c3 c4 c5 : Nat), v = .agg #[.int .i64 d1, .int .i64 f1, .slice A1 ss1.length c1, .int .i64 d2, .int .i64 f2, .slice A2 ss2.length c2, .slice A3 st.length c3, .slice A4 P.length c4, .slice A5 pp.length c5, .int .i64 m] ∧ RawWork W W.heap.size A1 A2 A3 A4 A5 ⟨d1, f1, ss1, d2, f2, ss2, st⟩ P pp := by
  obtain ⟨cs, rfl, hsz⟩ := okWide_struct Tryz.underlying51 hv
  obtain ⟨k0, k1, k2, k3, k4, k5, k6, k7, k8, k9, rfl⟩ : ∃ k0 k1 k2 k3 k4 k5 k6 k7 k8 k9, cs = #[k0, k1, k2, k3, k4, k5, k6, k7, k8, k9] := by
    have hsz2 := hsz.trans cells_lworkW
    obtain ⟨l⟩ := cs
    match l, hsz2 with
    | [k0, k1, k2, k3, k4, k5, k6, k7, k8, k9], _ => exact ⟨k0, k1, k2, k3, k4, k5, k6, k7, k8, k9, rfl⟩
  obtain ⟨fuel, hf⟩ := h
  have hf' : DataW.trod enc Tryz.prog W 0 (fun _ => true) true fuel 51 [k0, k1, k2, k3, k4, k5, k6, k7, k8, k9] = some (d, p) := by simpa [Value.cells] using hf
  obtain ⟨m0, y0, h0⟩ := trod_field Tryz.underlying51 hf' 0 _ rfl cells_ldraft
  obtain ⟨m1, y1, h1⟩ := trod_field Tryz.underlying51 hf' 1 _ rfl cells_litemsW
  obtain ⟨m2, y2, h2⟩ := trod_field Tryz.underlying51 hf' 2 _ rfl cells_lpapersW
  obtain ⟨m3, y3, h3⟩ := trod_field Tryz.underlying51 hf' 3 _ rfl cells_int
  obtain ⟨d1, f1, ss1, d2, f2, ss2, st, A1, A2, A3, e1, e2, e3, rfl, rfl, rfl, rfl, rfl, rfl, rfl, hD⟩ := trod_draftW h0
  obtain ⟨A4, e4, P, rfl, hI⟩ := trod_itemsW h1
  obtain ⟨A5, e5, pp, rfl, hP, hPn⟩ := trod_papersW h2
  obtain ⟨m, e9, _, _⟩ := DataW.trod_int Tryz.underlying3 h3
  simp at e9
  subst e9
  exact ⟨d1, f1, ss1, d2, f2, ss2, st, P, pp, m, A1, A2, A3, A4, A5, e1, e2, e3, e4, e5, rfl, ⟨hD, hI, hP, hPn⟩⟩
end Go.Proofs.YtlimlolciekimaaGreatDoor
