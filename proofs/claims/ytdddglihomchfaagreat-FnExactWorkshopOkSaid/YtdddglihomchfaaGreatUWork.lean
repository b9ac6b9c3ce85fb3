/- Workshops in the one form: drafts, items and papers in three ranges of blocks, apart; the law package's helpers over them. -/
import Derived.Test.YtdddglihomchfaaGreatUDraftW
import Derived.Test.YtdddglihomchfaaGreatDraft3
import Derived.Test.YtdddglihomchfaaGreatItem3
import Derived.Test.YtdddglihomchfaaGreatRowPaper
namespace Go.Proofs.YtdddglihomchfaaGreat
open Go.ChangeShapes Go.WideShapes Go.ChangeAt Go.RowKit
set_option linter.unusedVariables false
set_option linter.unusedSimpArgs false
set_option maxRecDepth 10000

/-- a row of papers of one's own -/
structure OwnP (w : World) (lo hi : Nat) (A : Option Addr) (c : Nat) (l : List PPaper) : Prop where
  row : w.ownsRow lo 118 3 (.slice A l.length c) l.length (l.flatMap paperCells)
  top : ∀ k, (Value.slice A l.length c).ownBlock = some k → k < hi
section
variable {lo hi lo' hi' : Nat} {w w' : World} {A : Option Addr} {c : Nat} {l : List PPaper}
theorem OwnP.within {a h : Nat} (ho : OwnP w lo hi A c l) (hW : Within a h w w') (hd : hi ≤ a ∨ h ≤ lo) : OwnP w' lo hi A c l :=
  ⟨own_within ho.row hW (fun k hk => by have h1 := ho.top k hk; have h2 := (ho.row.lt k hk).1; omega), ho.top⟩
theorem OwnP.below (ho : OwnP w lo hi A c l) (hb : Below w.heap.size w w') : OwnP w' lo hi A c l := ⟨own_below ho.row hb, ho.top⟩
theorem OwnP.box {g : Nat} {cs : Array Value} {t : TypeId} {fr : Nat × Nat} (ho : OwnP w lo hi A c l) (hk : w.heap[g]? = some (.cells cs t fr)) (ht : t ∉ rowTys) (hg : w.grownBy w' (some g)) : OwnP w' lo hi A c l := ⟨own_box ho.row (by decide) hk ht hg, ho.top⟩
theorem OwnP.boxy (ho : OwnP w lo hi A c l) (h : Boxy w w') : OwnP w' lo hi A c l := ⟨own_boxy ho.row (by decide) h, ho.top⟩
theorem OwnP.drew (ho : OwnP w lo hi A c l) : OwnP w.drew lo hi A c l := ⟨ho.row, ho.top⟩
theorem OwnP.alloc (ho : OwnP w lo hi A c l) (o : Obj) : OwnP (w.alloc o) lo hi A c l := ⟨ho.row.alloc _, ho.top⟩
theorem OwnP.wide (ho : OwnP w lo hi A c l) (h1 : lo' ≤ lo) (h2 : hi ≤ hi') : OwnP w lo' hi' A c l := ⟨own_base ho.row h1, fun k hk => by have := ho.top k hk; omega⟩
theorem OwnP.of (ho : w.ownsRow lo 118 3 (.slice A l.length c) l.length (l.flatMap paperCells)) (h : w.heap.size ≤ hi) : OwnP w lo hi A c l := ⟨ho, fun k hk => by have := (ho.lt k hk).2; omega⟩
theorem OwnP.rd (ho : OwnP w lo hi A c l) (hn : l.length ≤ 16777216) : Papers w w.heap.size A l.length l := ⟨Reads.of_own ho.row, hn⟩
end
/-- a workshop's bounds -/
structure OkWork (D : PDraft) (P : List PItem) (pp : List PPaper) (m : Nat) : Prop where
  d : OkDraft D m
  i : OkItems P m
  p : pp.length ≤ m
theorem OkWork.more {D : PDraft} {P : List PItem} {pp : List PPaper} {m k : Nat} (h : OkWork D P pp m) (hk : m ≤ k) : OkWork D P pp k := ⟨h.d.more hk, h.i.more hk, by have := h.p; omega⟩
/-- a workshop as it can be read (of the catalog's capacity nothing is said) -/
structure RdWork0 (w : World) (B : Nat) (A1 A2 A3 A4 A5 : Option Addr) (D : PDraft) (P : List PItem) (pp : List PPaper) : Prop where
  d : RdDraft w B A1 A2 A3 D
  i : ∃ L, plI L = P ∧ Items w B A4 P.length L
  p : Papers w B A5 pp.length pp
theorem RdWork0.below {w w' : World} {B : Nat} {A1 A2 A3 A4 A5 : Option Addr} {D : PDraft} {P : List PItem} {pp : List PPaper} (h : RdWork0 w B A1 A2 A3 A4 A5 D P pp) (hb : Below B w w') : RdWork0 w' B A1 A2 A3 A4 A5 D P pp := ⟨h.d.below hb, h.i.elim fun L q => ⟨L, q.1, q.2.below hb⟩, h.p.below hb⟩
theorem RdWork0.ok {w : World} {B : Nat} {A1 A2 A3 A4 A5 : Option Addr} {D : PDraft} {P : List PItem} {pp : List PPaper} (h : RdWork0 w B A1 A2 A3 A4 A5 D P pp) : OkWork D P pp 16777216 := ⟨h.d.ok, h.i.elim fun L q => q.1 ▸ q.2.ok, h.p.nb⟩
/-- a workshop as it can be read -/
structure RdWork (w : World) (B : Nat) (A1 A2 A3 A4 : Option Addr) (c4 : Nat) (A5 : Option Addr) (D : PDraft) (P : List PItem) (pp : List PPaper) : Prop where
  d : RdDraft w B A1 A2 A3 D
  i : ∃ L, plI L = P ∧ Items w B A4 P.length L
  p : Papers w B A5 pp.length pp
  cap : P.length ≤ c4 ∧ c4 ≤ 9223372036854775807 ∧ (A4 = none → c4 = 0)
section
variable {w w' : World} {B B' : Nat} {A1 A2 A3 A4 A5 : Option Addr} {c4 : Nat} {D : PDraft} {P : List PItem} {pp : List PPaper}
theorem RdWork.below (h : RdWork w B A1 A2 A3 A4 c4 A5 D P pp) (hb : Below B w w') : RdWork w' B A1 A2 A3 A4 c4 A5 D P pp := ⟨h.d.below hb, h.i.elim fun L q => ⟨L, q.1, q.2.below hb⟩, h.p.below hb, h.cap⟩
theorem RdWork.more (h : RdWork w B A1 A2 A3 A4 c4 A5 D P pp) (hb : B ≤ B') : RdWork w B' A1 A2 A3 A4 c4 A5 D P pp := ⟨h.d.more hb, h.i.elim fun L q => ⟨L, q.1, q.2.more hb⟩, h.p.more hb, h.cap⟩
theorem RdWork.alloc (h : RdWork w B A1 A2 A3 A4 c4 A5 D P pp) (hB : B ≤ w.heap.size) (o : Obj) : RdWork (w.alloc o) B A1 A2 A3 A4 c4 A5 D P pp := ⟨h.d.alloc hB o, h.i.elim fun L q => ⟨L, q.1, q.2.alloc hB o⟩, h.p.alloc hB o, h.cap⟩
theorem RdWork.drewN (h : RdWork w B A1 A2 A3 A4 c4 A5 D P pp) (k : Nat) : RdWork (w.drewN k) B A1 A2 A3 A4 c4 A5 D P pp := ⟨h.d.drewN k, h.i.elim fun L q => ⟨L, q.1, q.2.drewN k⟩, h.p.drewN k, h.cap⟩
theorem RdWork.ok (h : RdWork w B A1 A2 A3 A4 c4 A5 D P pp) : OkWork D P pp 16777216 := ⟨h.d.ok, h.i.elim fun L q => q.1 ▸ q.2.ok, h.p.nb⟩
end
theorem own_capU {w : World} {base n c size : Nat} {e : TypeId} {A : Option Addr} {xs : List Value} (h : w.ownsRow base e size (.slice A n c) n xs) : n ≤ c ∧ c ≤ 9223372036854775807 ∧ (A = none → c = 0) := by
  rcases h.2 with ⟨hv, h0⟩ | ⟨g', cap, cur, hv, _, _, h1, h2, _⟩
  · injection hv with e1 _ e3; exact ⟨by omega, by omega, fun _ => e3⟩
  · injection hv with e1 _ e3; subst e3; unfold maxLen at h2; exact ⟨h1, by omega, fun h => by rw [e1] at h; cases h⟩
/-- a workshop of one's own: its parts lie in three ranges, apart -/
structure OwnW (w : World) (lo hi : Nat) (A1 : Option Addr) (c1 : Nat) (A2 : Option Addr) (c2 : Nat) (A3 : Option Addr) (c3 : Nat) (A4 : Option Addr) (c4 : Nat) (A5 : Option Addr) (c5 : Nat) (D : PDraft) (P : List PItem) (pp : List PPaper) : Prop where
  all : ∃ l1 h1 l2 h2 l3 h3 L, (lo ≤ l1 ∧ h1 ≤ hi ∧ lo ≤ l2 ∧ h2 ≤ hi ∧ lo ≤ l3 ∧ h3 ≤ hi) ∧ ((h1 ≤ l2 ∨ h2 ≤ l1) ∧ (h1 ≤ l3 ∨ h3 ≤ l1) ∧ (h2 ≤ l3 ∨ h3 ≤ l2)) ∧ OwnDW w l1 h1 A1 c1 A2 c2 A3 c3 D ∧ plI L = P ∧ OwnItems w l2 h2 A4 P.length c4 L ∧ OwnP w l3 h3 A5 c5 pp
section
variable {lo hi lo' hi' : Nat} {w w' : World} {A1 A2 A3 A4 A5 : Option Addr} {c1 c2 c3 c4 c5 : Nat} {D : PDraft} {P : List PItem} {pp : List PPaper}
theorem OwnW.mk3 {l1 h1 l2 h2 l3 h3 : Nat} {L : List RItem} (hd : OwnDW w l1 h1 A1 c1 A2 c2 A3 c3 D) (hp : plI L = P) (hi_ : OwnItems w l2 h2 A4 P.length c4 L) (hpp : OwnP w l3 h3 A5 c5 pp) (hr : lo ≤ l1 ∧ h1 ≤ hi ∧ lo ≤ l2 ∧ h2 ≤ hi ∧ lo ≤ l3 ∧ h3 ≤ hi) (ha : (h1 ≤ l2 ∨ h2 ≤ l1) ∧ (h1 ≤ l3 ∨ h3 ≤ l1) ∧ (h2 ≤ l3 ∨ h3 ≤ l2)) : OwnW w lo hi A1 c1 A2 c2 A3 c3 A4 c4 A5 c5 D P pp := ⟨⟨l1, h1, l2, h2, l3, h3, L, hr, ha, hd, hp, hi_, hpp⟩⟩
theorem OwnW.within {l h : Nat} (ho : OwnW w lo hi A1 c1 A2 c2 A3 c3 A4 c4 A5 c5 D P pp) (hW : Within l h w w') (hd : hi ≤ l ∨ h ≤ lo) : OwnW w' lo hi A1 c1 A2 c2 A3 c3 A4 c4 A5 c5 D P pp := by
  obtain ⟨l1, h1, l2, h2, l3, h3, L, hr, ha, x, hp, y, z⟩ := ho.all
  exact .mk3 (x.within hW (by omega)) hp (y.within hW (by omega)) (z.within hW (by omega)) hr ha
theorem OwnW.below (ho : OwnW w lo hi A1 c1 A2 c2 A3 c3 A4 c4 A5 c5 D P pp) (hb : Below w.heap.size w w') : OwnW w' lo hi A1 c1 A2 c2 A3 c3 A4 c4 A5 c5 D P pp := by
  obtain ⟨l1, h1, l2, h2, l3, h3, L, hr, ha, x, hp, y, z⟩ := ho.all
  exact .mk3 (x.below hb) hp (y.below hb) (z.below hb) hr ha
theorem OwnW.box {g : Nat} {cs : Array Value} {t : TypeId} {fr : Nat × Nat} (ho : OwnW w lo hi A1 c1 A2 c2 A3 c3 A4 c4 A5 c5 D P pp) (hk : w.heap[g]? = some (.cells cs t fr)) (ht : t ∉ rowTys) (hg : w.grownBy w' (some g)) : OwnW w' lo hi A1 c1 A2 c2 A3 c3 A4 c4 A5 c5 D P pp := by
  obtain ⟨l1, h1, l2, h2, l3, h3, L, hr, ha, x, hp, y, z⟩ := ho.all
  exact .mk3 (x.box hk ht hg) hp (y.box hk ht hg) (z.box hk ht hg) hr ha
theorem OwnW.boxy (ho : OwnW w lo hi A1 c1 A2 c2 A3 c3 A4 c4 A5 c5 D P pp) (h : Boxy w w') : OwnW w' lo hi A1 c1 A2 c2 A3 c3 A4 c4 A5 c5 D P pp := by
  obtain ⟨l1, h1, l2, h2, l3, h3, L, hr, ha, x, hp, y, z⟩ := ho.all
  exact .mk3 (x.boxy h) hp (y.boxy h) (z.boxy h) hr ha
theorem OwnW.drew (ho : OwnW w lo hi A1 c1 A2 c2 A3 c3 A4 c4 A5 c5 D P pp) : OwnW w.drew lo hi A1 c1 A2 c2 A3 c3 A4 c4 A5 c5 D P pp := by
  obtain ⟨l1, h1, l2, h2, l3, h3, L, hr, ha, x, hp, y, z⟩ := ho.all
  exact .mk3 x.drew hp y.drew z.drew hr ha
theorem OwnW.alloc (ho : OwnW w lo hi A1 c1 A2 c2 A3 c3 A4 c4 A5 c5 D P pp) (o : Obj) : OwnW (w.alloc o) lo hi A1 c1 A2 c2 A3 c3 A4 c4 A5 c5 D P pp := by
  obtain ⟨l1, h1, l2, h2, l3, h3, L, hr, ha, x, hp, y, z⟩ := ho.all
  exact .mk3 (x.alloc o) hp (y.alloc o) (z.alloc o) hr ha
theorem OwnW.wide (ho : OwnW w lo hi A1 c1 A2 c2 A3 c3 A4 c4 A5 c5 D P pp) (k1 : lo' ≤ lo) (k2 : hi ≤ hi') : OwnW w lo' hi' A1 c1 A2 c2 A3 c3 A4 c4 A5 c5 D P pp := by
  obtain ⟨l1, h1, l2, h2, l3, h3, L, hr, ha, x, hp, y, z⟩ := ho.all
  exact .mk3 x hp y z (by omega) ha
theorem OwnW.rd (ho : OwnW w lo hi A1 c1 A2 c2 A3 c3 A4 c4 A5 c5 D P pp) (hk : OkWork D P pp 16777216) : RdWork w w.heap.size A1 A2 A3 A4 c4 A5 D P pp := by
  obtain ⟨l1, h1, l2, h2, l3, h3, L, hr, ha, x, hp, y, z⟩ := ho.all
  exact ⟨x.rd hk.d, ⟨L, hp, y.rdP hp hk.i⟩, z.rd hk.p, own_capU y.row⟩
end
def UWork (d1 f1 : Int) (ss1 : List ByteArray) (d2 f2 : Int) (ss2 : List ByteArray) (st : List PStep) (P : List PItem) (pp : List PPaper) (m : Int) (w : World) (e : Ending) (w' : World) : Prop :=
  ∃ B1 e1 B2 e2 B3 e3 B4 e4 B5 e5, e = .returned (.agg #[.int .i64 d1, .int .i64 f1, .slice B1 ss1.length e1, .int .i64 d2, .int .i64 f2, .slice B2 ss2.length e2, .slice B3 st.length e3, .slice B4 P.length e4, .slice B5 pp.length e5, .int .i64 m]) ∧ OwnW w' w.heap.size w'.heap.size B1 e1 B2 e2 B3 e3 B4 e4 B5 e5 ⟨d1, f1, ss1, d2, f2, ss2, st⟩ P pp ∧ Below w.heap.size w w'
def UWorkB (d1 f1 : Int) (ss1 : List ByteArray) (d2 f2 : Int) (ss2 : List ByteArray) (st : List PStep) (P : List PItem) (pp : List PPaper) (m : Int) (b : Bool) (w : World) (e : Ending) (w' : World) : Prop :=
  ∃ B1 e1 B2 e2 B3 e3 B4 e4 B5 e5, e = .returned (.tuple #[.agg #[.int .i64 d1, .int .i64 f1, .slice B1 ss1.length e1, .int .i64 d2, .int .i64 f2, .slice B2 ss2.length e2, .slice B3 st.length e3, .slice B4 P.length e4, .slice B5 pp.length e5, .int .i64 m], .bool b]) ∧ OwnW w' w.heap.size w'.heap.size B1 e1 B2 e2 B3 e3 B4 e4 B5 e5 ⟨d1, f1, ss1, d2, f2, ss2, st⟩ P pp ∧ Below w.heap.size w w'
def UWorkI (d1 f1 : Int) (ss1 : List ByteArray) (d2 f2 : Int) (ss2 : List ByteArray) (st : List PStep) (P : List PItem) (pp : List PPaper) (m : Int) (x : Int) (w : World) (e : Ending) (w' : World) : Prop :=
  ∃ B1 e1 B2 e2 B3 e3 B4 e4 B5 e5, e = .returned (.tuple #[.agg #[.int .i64 d1, .int .i64 f1, .slice B1 ss1.length e1, .int .i64 d2, .int .i64 f2, .slice B2 ss2.length e2, .slice B3 st.length e3, .slice B4 P.length e4, .slice B5 pp.length e5, .int .i64 m], .int .i64 x]) ∧ OwnW w' w.heap.size w'.heap.size B1 e1 B2 e2 B3 e3 B4 e4 B5 e5 ⟨d1, f1, ss1, d2, f2, ss2, st⟩ P pp ∧ Below w.heap.size w w'
theorem blk10_set7 {w : World} {g : Nat} {t : TypeId} {z0 z1 z2 z3 z4 z5 z6 z7 z8 z9 : Value} (h : w.heap[g]? = some (.cells #[z0, z1, z2, z3, z4, z5, z6, z7, z8, z9] t (0, 0))) (a0 a1 a2 a3 a4 a5 a6 : Value) :
    (((((((w.setCell ⟨g, 0, none⟩ a0).setCell ⟨g, 1, none⟩ a1).setCell ⟨g, 2, none⟩ a2).setCell ⟨g, 3, none⟩ a3).setCell ⟨g, 4, none⟩ a4).setCell ⟨g, 5, none⟩ a5).setCell ⟨g, 6, none⟩ a6).heap[g]? = some (.cells #[a0, a1, a2, a3, a4, a5, a6, z7, z8, z9] t (0, 0)) := by
  have := blk_set (blk_set (blk_set (blk_set (blk_set (blk_set (blk_set h 0 a0) 1 a1) 2 a2) 3 a3) 4 a4) 5 a5) 6 a6
  simpa using this
theorem blk_other7 {w : World} {g g2 : Nat} {o : Obj} (h : w.heap[g]? = some o) (hne : g ≠ g2) (a0 a1 a2 a3 a4 a5 a6 : Value) : (((((((w.setCell ⟨g2, 0, none⟩ a0).setCell ⟨g2, 1, none⟩ a1).setCell ⟨g2, 2, none⟩ a2).setCell ⟨g2, 3, none⟩ a3).setCell ⟨g2, 4, none⟩ a4).setCell ⟨g2, 5, none⟩ a5).setCell ⟨g2, 6, none⟩ a6).heap[g]? = some o :=
  blk_other (blk_other (blk_other (blk_other (blk_other (blk_other (blk_other h hne _) hne _) hne _) hne _) hne _) hne _) hne _
theorem blk10f {w : World} {g : Nat} {t : TypeId} {a0 a1 a2 a3 a4 a5 a6 a7 a8 a9 : Value} (h : w.heap[g]? = some (.cells #[a0, a1, a2, a3, a4, a5, a6, a7, a8, a9] t (0, 0))) :
    (w.frozen? ⟨g, 0, none⟩ = false ∧ w.frozen? ⟨g, 1, none⟩ = false ∧ w.frozen? ⟨g, 2, none⟩ = false ∧ w.frozen? ⟨g, 3, none⟩ = false ∧ w.frozen? ⟨g, 4, none⟩ = false) ∧ (w.frozen? ⟨g, 5, none⟩ = false ∧ w.frozen? ⟨g, 6, none⟩ = false ∧ w.frozen? ⟨g, 7, none⟩ = false ∧ w.frozen? ⟨g, 8, none⟩ = false ∧ w.frozen? ⟨g, 9, none⟩ = false) :=
  ⟨⟨(blk_cells h 0).2, (blk_cells h 1).2, (blk_cells h 2).2, (blk_cells h 3).2, (blk_cells h 4).2⟩, (blk_cells h 5).2, (blk_cells h 6).2, (blk_cells h 7).2, (blk_cells h 8).2, (blk_cells h 9).2⟩
theorem only7 {w : World} {g : Nat} (a0 a1 a2 a3 a4 a5 a6 : Value) : w.grownBy (((((((w.setCell ⟨g, 0, none⟩ a0).setCell ⟨g, 1, none⟩ a1).setCell ⟨g, 2, none⟩ a2).setCell ⟨g, 3, none⟩ a3).setCell ⟨g, 4, none⟩ a4).setCell ⟨g, 5, none⟩ a5).setCell ⟨g, 6, none⟩ a6) (some g) := by
  repeat (first | (with_reducible exact World.grownBy.refl _ _) | (with_reducible refine only_setCell ?_ (.inl rfl) _))
theorem only1 {w : World} {g i : Nat} (a : Value) : w.grownBy (w.setCell ⟨g, i, none⟩ a) (some g) := only_setCell (World.grownBy.refl _ _) (.inl rfl) _
set_option maxHeartbeats 1600000 in
theorem u_eqWorkshop (d1 f1 : Int) (ss1 : List ByteArray) (d2 f2 : Int) (ss2 : List ByteArray) (st : List PStep) (P : List PItem) (pp : List PPaper) (m : Int) (A1 A2 A3 A4 A5 B1 B2 B3 B4 B5 : Option Addr) (c1 c2 c3 c4 c5 e1 e2 e3 e4 e5 : Nat) (lo1 hi1 lo2 hi2 : Nat) (w : World) (h1 : OwnW w lo1 hi1 A1 c1 A2 c2 A3 c3 A4 c4 A5 c5 ⟨d1, f1, ss1, d2, f2, ss2, st⟩ P pp) (h2 : OwnW w lo2 hi2 B1 e1 B2 e2 B3 e3 B4 e4 B5 e5 ⟨d1, f1, ss1, d2, f2, ss2, st⟩ P pp) (hok : OkWork ⟨d1, f1, ss1, d2, f2, ss2, st⟩ P pp 16777216) :
    Calls Tryz.prog 19 #[.agg #[.int .i64 d1, .int .i64 f1, .slice A1 ss1.length c1, .int .i64 d2, .int .i64 f2, .slice A2 ss2.length c2, .slice A3 st.length c3, .slice A4 P.length c4, .slice A5 pp.length c5, .int .i64 m], .agg #[.int .i64 d1, .int .i64 f1, .slice B1 ss1.length e1, .int .i64 d2, .int .i64 f2, .slice B2 ss2.length e2, .slice B3 st.length e3, .slice B4 P.length e4, .slice B5 pp.length e5, .int .i64 m]] w fun e w' => e = .returned (.bool true) ∧ Below w.heap.size w w' := by
  have HO := hide hok
  obtain ⟨a1, b1, a2, b2, a3, b3, L1, hr, ha, x1, hp1, y1, z1⟩ := h1.all
  obtain ⟨a1', b1', a2', b2', a3', b3', L2, hr', ha', x2, hp2, y2, z2⟩ := h2.all
  have HP1 := Lib.hid hp1
  have HP2 := Lib.hid hp2
  clear hr ha hr' ha' hp1 hp2 h1 h2 hok
  go_enter Tryz.func19, Tryz.ntmps19
  go_wp2_with fail
  have hb0 : Below w.heap.size w ((w.alloc (.cells #[.int .i64 d1, .int .i64 f1, .slice A1 ss1.length c1, .int .i64 d2, .int .i64 f2, .slice A2 ss2.length c2, .slice A3 st.length c3, .slice A4 P.length c4, .slice A5 pp.length c5, .int .i64 m] 41)).alloc (.cells #[.int .i64 d1, .int .i64 f1, .slice B1 ss1.length e1, .int .i64 d2, .int .i64 f2, .slice B2 ss2.length e2, .slice B3 st.length e3, .slice B4 P.length e4, .slice B5 pp.length e5, .int .i64 m] 41)) := ((Below.refl _ _).alloc (Nat.le_refl _) _).alloc (by simp) _
  have hka : ((w.alloc (.cells #[.int .i64 d1, .int .i64 f1, .slice A1 ss1.length c1, .int .i64 d2, .int .i64 f2, .slice A2 ss2.length c2, .slice A3 st.length c3, .slice A4 P.length c4, .slice A5 pp.length c5, .int .i64 m] 41)).alloc (.cells #[.int .i64 d1, .int .i64 f1, .slice B1 ss1.length e1, .int .i64 d2, .int .i64 f2, .slice B2 ss2.length e2, .slice B3 st.length e3, .slice B4 P.length e4, .slice B5 pp.length e5, .int .i64 m] 41)).heap[w.heap.size]? = some (.cells #[.int .i64 d1, .int .i64 f1, .slice A1 ss1.length c1, .int .i64 d2, .int .i64 f2, .slice A2 ss2.length c2, .slice A3 st.length c3, .slice A4 P.length c4, .slice A5 pp.length c5, .int .i64 m] 41 (0, 0)) := blk_alloc (blk_new _ _) _
  have hko : ((w.alloc (.cells #[.int .i64 d1, .int .i64 f1, .slice A1 ss1.length c1, .int .i64 d2, .int .i64 f2, .slice A2 ss2.length c2, .slice A3 st.length c3, .slice A4 P.length c4, .slice A5 pp.length c5, .int .i64 m] 41)).alloc (.cells #[.int .i64 d1, .int .i64 f1, .slice B1 ss1.length e1, .int .i64 d2, .int .i64 f2, .slice B2 ss2.length e2, .slice B3 st.length e3, .slice B4 P.length e4, .slice B5 pp.length e5, .int .i64 m] 41)).heap[w.heap.size + 1]? = some (.cells #[.int .i64 d1, .int .i64 f1, .slice B1 ss1.length e1, .int .i64 d2, .int .i64 f2, .slice B2 ss2.length e2, .slice B3 st.length e3, .slice B4 P.length e4, .slice B5 pp.length e5, .int .i64 m] 41 (0, 0)) := blk_new_at _ _ (by simp)
  generalize ((w.alloc (.cells #[.int .i64 d1, .int .i64 f1, .slice A1 ss1.length c1, .int .i64 d2, .int .i64 f2, .slice A2 ss2.length c2, .slice A3 st.length c3, .slice A4 P.length c4, .slice A5 pp.length c5, .int .i64 m] 41)).alloc (.cells #[.int .i64 d1, .int .i64 f1, .slice B1 ss1.length e1, .int .i64 d2, .int .i64 f2, .slice B2 ss2.length e2, .slice B3 st.length e3, .slice B4 P.length e4, .slice B5 pp.length e5, .int .i64 m] 41)) = w0 at *
  have hs0 := hb0.size
  refine (u_eqDraftW d1 f1 ss1 d2 f2 ss2 st A1 A2 A3 B1 B2 B3 c1 c2 c3 e1 e2 e3 _ _ _ _ w0 (x1.below hb0) (x2.below hb0) (unhide HO).d).mono ?_
  rintro e w1 ⟨rfl, hb1⟩
  have hka1 := blk_next hka hb1
  have hko1 := blk_next hko hb1
  have hbw1 : Below w.heap.size w w1 := hb0.trans (hb1.mono hs0)
  clear hka hko hb1 hb0 x1 x2
  obtain ⟨hx0, hx1, hx2, hx3, hx4, hx5, hx6, hx7, hx8, hx9, hxl⟩ := blk10 hka1
  obtain ⟨hy0, hy1, hy2, hy3, hy4, hy5, hy6, hy7, hy8, hy9, hyl⟩ := blk10 hko1
  go_wp2_with fail
  clear hx0 hx1 hx2 hx3 hx4 hx5 hx6 hx7 hx8 hx9 hxl
  clear hy0 hy1 hy2 hy3 hy4 hy5 hy6 hy7 hy8 hy9 hyl
  refine (u_eqItemS P A4 B4 c4 e4 L1 L2 _ _ _ _ w1 (y1.below hbw1) (y2.below hbw1) HP1.out HP2.out (unhide HO).i).mono ?_
  rintro e w2 ⟨rfl, hb2⟩
  have hka2 := blk_next hka1 hb2
  have hko2 := blk_next hko1 hb2
  have hbw2 : Below w.heap.size w w2 := hbw1.trans (hb2.mono hbw1.size)
  clear hka1 hko1 hb2 hbw1 y1 y2
  obtain ⟨hx0, hx1, hx2, hx3, hx4, hx5, hx6, hx7, hx8, hx9, hxl⟩ := blk10 hka2
  obtain ⟨hy0, hy1, hy2, hy3, hy4, hy5, hy6, hy7, hy8, hy9, hyl⟩ := blk10 hko2
  go_wp2_with fail
  clear hx0 hx1 hx2 hx3 hx4 hx5 hx6 hx7 hx8 hx9 hxl
  clear hy0 hy1 hy2 hy3 hy4 hy5 hy6 hy7 hy8 hy9 hyl
  refine (l_eqPaperS_same w2.heap.size A5 B5 pp.length c5 e5 pp w2 ((z1.below hbw2).rd (unhide HO).p) ((z2.below hbw2).rd (unhide HO).p) (Nat.le_refl _)).mono ?_
  rintro e w3 ⟨rfl, hb3⟩
  have hka3 := blk_next hka2 hb3
  have hko3 := blk_next hko2 hb3
  have hbw3 : Below w.heap.size w w3 := hbw2.trans (hb3.mono hbw2.size)
  clear hka2 hko2 hb3 hbw2 z1 z2
  obtain ⟨hx0, hx1, hx2, hx3, hx4, hx5, hx6, hx7, hx8, hx9, hxl⟩ := blk10 hka3
  obtain ⟨hy0, hy1, hy2, hy3, hy4, hy5, hy6, hy7, hy8, hy9, hyl⟩ := blk10 hko3
  go_wp2
  go_ret
  exact ⟨rfl, hbw3⟩
/-- a workshop of marks of one's own -/
structure MkW (w : World) (lo hi : Nat) (A1 : Option Addr) (c1 n1 : Nat) (A2 : Option Addr) (c2 n2 : Nat) (A3 : Option Addr) (c3 n3 : Nat) (A4 : Option Addr) (c4 : Nat) (A5 : Option Addr) (c5 n5 : Nat) (P : List PItem) (k : Int) : Prop where
  all : ∃ l1 h1 l2 h2 l3 L, MkDW w l1 h1 A1 c1 n1 A2 c2 n2 A3 c3 n3 k ∧ plI L = P ∧ OwnItems w l2 h2 A4 P.length c4 (mksI (k + n1 + n2 + 7 * (n3 : Int)) L) ∧ w.ownsRow l3 118 3 (.slice A5 n5 c5) n5 (marksPaper (k + n1 + n2 + 7 * (n3 : Int) + (cntI P : Int)) n5)
section
variable {lo hi : Nat} {w w' : World} {A1 A2 A3 A4 A5 : Option Addr} {c1 c2 c3 c4 c5 n1 n2 n3 n5 : Nat} {P : List PItem} {k : Int}
theorem MkW.below (h : MkW w lo hi A1 c1 n1 A2 c2 n2 A3 c3 n3 A4 c4 A5 c5 n5 P k) (hb : Below w.heap.size w w') : MkW w' lo hi A1 c1 n1 A2 c2 n2 A3 c3 n3 A4 c4 A5 c5 n5 P k := by
  obtain ⟨l1, h1, l2, h2, l3, L, x, hp, y, z⟩ := h.all
  exact ⟨⟨l1, h1, l2, h2, l3, L, x.below hb, hp, y.below hb, own_below z hb⟩⟩
theorem MkW.alloc (h : MkW w lo hi A1 c1 n1 A2 c2 n2 A3 c3 n3 A4 c4 A5 c5 n5 P k) (o : Obj) : MkW (w.alloc o) lo hi A1 c1 n1 A2 c2 n2 A3 c3 n3 A4 c4 A5 c5 n5 P k := by
  obtain ⟨l1, h1, l2, h2, l3, L, x, hp, y, z⟩ := h.all
  exact ⟨⟨l1, h1, l2, h2, l3, L, x.alloc o, hp, y.alloc o, z.alloc _⟩⟩
end
theorem MkDW.within {w w' : World} {lo hi l h : Nat} {A1 A2 A3 : Option Addr} {c1 c2 c3 n1 n2 n3 : Nat} {k : Int} (q : MkDW w lo hi A1 c1 n1 A2 c2 n2 A3 c3 n3 k) (ht : ∀ c j, (Value.slice A3 n3 c).ownBlock = some j → j < hi) (hW : Within l h w w') (hd : hi ≤ l ∨ h ≤ lo) : MkDW w' lo hi A1 c1 n1 A2 c2 n2 A3 c3 n3 k :=
  ⟨⟨own_within q.m1.row hW (fun j hj => by have h1 := q.m1.top j hj; have h2 := (q.m1.row.lt j hj).1; omega), q.m1.top⟩, ⟨own_within q.m2.row hW (fun j hj => by have h1 := q.m2.top j hj; have h2 := (q.m2.row.lt j hj).1; omega), q.m2.top⟩, q.m3.elim fun c0 h3 => ⟨c0, own_within h3 hW (fun j hj => by have h1 := ht _ j hj; have h2 := (h3.lt j hj).1; omega)⟩⟩
theorem own_anyc {A : Option Addr} {n c c' : Nat} : (Value.slice A n c).ownBlock = (Value.slice A n c').ownBlock := by cases A <;> rfl
theorem Within.own3 {w w' : World} {base n lo hi : Nat} {A : Option Addr} {c : Nat} {xs : List Value} (h : w.ownsRow base 118 3 (.slice A n c) n xs) (ht : ∀ k, (Value.slice A n c).ownBlock = some k → k < hi) (hb : lo ≤ base) (hg : w.grownBy w' (Value.slice A n c).ownBlock) : Within lo hi w w' := Within.of_grown h (by decide) hg hb ht
set_option maxHeartbeats 1600000 in
theorem u_markWorkshop (d1 f1 : Int) (ss1 : List ByteArray) (d2 f2 : Int) (ss2 : List ByteArray) (st : List PStep) (P : List PItem) (pp : List PPaper) (m : Int) (A1 A2 A3 A4 A5 : Option Addr) (c1 c2 c3 c4 c5 lo hi : Nat) (k : Int) (w : World) (h : OwnW w lo hi A1 c1 A2 c2 A3 c3 A4 c4 A5 c5 ⟨d1, f1, ss1, d2, f2, ss2, st⟩ P pp) (hk0 : 0 ≤ k) (hk1 : k ≤ 1000000000000000) (hok : OkWork ⟨d1, f1, ss1, d2, f2, ss2, st⟩ P pp 16777216) :
    Calls Tryz.prog 26 #[.agg #[.int .i64 d1, .int .i64 f1, .slice A1 ss1.length c1, .int .i64 d2, .int .i64 f2, .slice A2 ss2.length c2, .slice A3 st.length c3, .slice A4 P.length c4, .slice A5 pp.length c5, .int .i64 m], .int .i64 k] w fun e w' =>
      e = .returned (.int .i64 (k + ss1.length + ss2.length + 7 * (st.length : Int) + (cntI P : Int) + 3 * (pp.length : Int))) ∧ MkW w' lo hi A1 c1 ss1.length A2 c2 ss2.length A3 c3 st.length A4 c4 A5 c5 pp.length P k ∧ Within lo hi w w' := by
  obtain ⟨l1, h1, l2, h2, l3, h3, L, hr, ha, x, hp, y, z⟩ := h.all
  have hn1 : ss1.length ≤ 16777216 := hok.d.l1
  have hn2 : ss2.length ≤ 16777216 := hok.d.l2
  have hn3 : st.length ≤ 16777216 := hok.d.l3
  have hn4 := cntI_le2 hok.i
  have hn5 := hok.p
  have HP := Lib.hid hp
  have HO := hide hok
  have HA := hide ha
  have HR := hide hr
  clear hp hok ha hr h
  go_enter Tryz.func26, Tryz.ntmps26
  go_wp2_with fail
  have ht3 : ∀ c j, (Value.slice A3 st.length c).ownBlock = some j → j < h1 := fun c j hj => x.o3.elim fun c0 h3 => h3.top j ((own_anyc (c' := c)).trans hj)
  have HT3 := hide ht3
  clear ht3
  have hka := blk_new w (.cells #[.int .i64 d1, .int .i64 f1, .slice A1 ss1.length c1, .int .i64 d2, .int .i64 f2, .slice A2 ss2.length c2, .slice A3 st.length c3, .slice A4 P.length c4, .slice A5 pp.length c5, .int .i64 m] 41)
  have hW0 : Within lo hi w (w.alloc (.cells #[.int .i64 d1, .int .i64 f1, .slice A1 ss1.length c1, .int .i64 d2, .int .i64 f2, .slice A2 ss2.length c2, .slice A3 st.length c3, .slice A4 P.length c4, .slice A5 pp.length c5, .int .i64 m] 41)) := Within.of_below ((Below.refl _ _).alloc (Nat.le_refl _) _)
  have x0 := x.alloc (.cells #[.int .i64 d1, .int .i64 f1, .slice A1 ss1.length c1, .int .i64 d2, .int .i64 f2, .slice A2 ss2.length c2, .slice A3 st.length c3, .slice A4 P.length c4, .slice A5 pp.length c5, .int .i64 m] 41)
  have y0 := y.alloc (.cells #[.int .i64 d1, .int .i64 f1, .slice A1 ss1.length c1, .int .i64 d2, .int .i64 f2, .slice A2 ss2.length c2, .slice A3 st.length c3, .slice A4 P.length c4, .slice A5 pp.length c5, .int .i64 m] 41)
  have z0 := z.alloc (.cells #[.int .i64 d1, .int .i64 f1, .slice A1 ss1.length c1, .int .i64 d2, .int .i64 f2, .slice A2 ss2.length c2, .slice A3 st.length c3, .slice A4 P.length c4, .slice A5 pp.length c5, .int .i64 m] 41)
  clear x y z
  generalize (w.alloc (.cells #[.int .i64 d1, .int .i64 f1, .slice A1 ss1.length c1, .int .i64 d2, .int .i64 f2, .slice A2 ss2.length c2, .slice A3 st.length c3, .slice A4 P.length c4, .slice A5 pp.length c5, .int .i64 m] 41)) = w0 at *
  refine (u_markDraftW d1 f1 ss1 d2 f2 ss2 st A1 A2 A3 c1 c2 c3 l1 h1 k w0 x0 hk0 (by omega) (unhide HO).d).mono ?_
  rintro e w1 ⟨rfl, m1, hW1⟩
  have hka1 := hW1.box hka
  have y1 := y0.within hW1 (by have := unhide HA; omega)
  have z1 := z0.within hW1 (by have := unhide HA; omega)
  have hX1 := hW0.trans (hW1.wide (unhide HR).1 (unhide HR).2.1)
  clear hka y0 z0 hW0 hW1 x0
  obtain ⟨hx0, hx1, hx2, hx3, hx4, hx5, hx6, hx7, hx8, hx9, hxl⟩ := blk10 hka1
  go_wp2_with fail
  clear hx0 hx1 hx2 hx3 hx4 hx5 hx6 hx7 hx8 hx9 hxl
  refine (u_markItemS P A4 c4 L l2 h2 (k + ss1.length + ss2.length + 7 * (st.length : Int)) w1 y1 HP.out (by omega) (by omega) (unhide HO).i).mono ?_
  rintro e w2 ⟨rfl, m2, hW2⟩
  have hka2 := hW2.box hka1
  have n1 := m1.within (unhide HT3) hW2 (by have := unhide HA; omega)
  have z2 := z1.within hW2 (by have := unhide HA; omega)
  have hX2 := hX1.trans (hW2.wide (unhide HR).2.2.1 (unhide HR).2.2.2.1)
  clear hka1 y1 z1 hX1 hW2 m1
  obtain ⟨hx0, hx1, hx2, hx3, hx4, hx5, hx6, hx7, hx8, hx9, hxl⟩ := blk10 hka2
  go_wp2_with fail
  clear hx0 hx1 hx2 hx3 hx4 hx5 hx6 hx7 hx8 hx9 hxl
  have z2r : w2.ownsRow l3 118 3 (.slice A5 pp.length c5) pp.length (pp.flatMap paperCells) := z2.row
  refine (l_markPaperS l3 A5 pp.length c5 _ (k + ss1.length + ss2.length + 7 * (st.length : Int) + (cntI P : Int)) w2 z2r (by omega) (by omega) hn5).mono ?_
  rintro e w3 ⟨rfl, m3, hg3⟩
  have hW3 : Within l3 h3 w2 w3 := Within.own3 z2.row z2.top (Nat.le_refl _) hg3
  have q1 := n1.within (unhide HT3) hW3 (by have := unhide HA; omega)
  have q2 := m2.within hW3 (by have := unhide HA; omega)
  have hX3 := hX2.trans (hW3.wide (unhide HR).2.2.2.2.1 (unhide HR).2.2.2.2.2)
  clear hX2 hW3 n1 m2 hg3
  go_wp2
  go_ret
  exact ⟨rfl, ⟨⟨l1, h1, l2, h2, l3, L, q1, HP.out, q2, m3⟩⟩, hX3⟩
set_option maxHeartbeats 1600000 in
theorem u_heldWorkshop (d1 f1 d2 f2 m : Int) (P : List PItem) (A1 A2 A3 A4 A5 : Option Addr) (c1 c2 c3 c4 c5 n1 n2 n3 n5 lo hi : Nat) (k : Int) (w : World) (h : MkW w lo hi A1 c1 n1 A2 c2 n2 A3 c3 n3 A4 c4 A5 c5 n5 P k) (hk0 : 0 ≤ k) (hk1 : k ≤ 1000000000000000) (hn1 : n1 ≤ 16777216) (hn2 : n2 ≤ 16777216) (hn3 : n3 ≤ 16777216) (hP : OkItems P 16777216) (hn5 : n5 ≤ 16777216) :
    Calls Tryz.prog 27 #[.agg #[.int .i64 d1, .int .i64 f1, .slice A1 n1 c1, .int .i64 d2, .int .i64 f2, .slice A2 n2 c2, .slice A3 n3 c3, .slice A4 P.length c4, .slice A5 n5 c5, .int .i64 m], .int .i64 k] w fun e w' =>
      e = .returned (.int .i64 (k + n1 + n2 + 7 * (n3 : Int) + (cntI P : Int) + 3 * (n5 : Int))) ∧ Below w.heap.size w w' := by
  obtain ⟨l1, h1, l2, h2, l3, L, x, hp, y, z⟩ := h.all
  have hn4 := cntI_le2 hP
  have HP := Lib.hid hp
  have HO := hide hP
  clear hp hP h
  go_enter Tryz.func27, Tryz.ntmps27
  go_wp2_with fail
  have hka := blk_new w (.cells #[.int .i64 d1, .int .i64 f1, .slice A1 n1 c1, .int .i64 d2, .int .i64 f2, .slice A2 n2 c2, .slice A3 n3 c3, .slice A4 P.length c4, .slice A5 n5 c5, .int .i64 m] 41)
  have hb0 : Below w.heap.size w (w.alloc (.cells #[.int .i64 d1, .int .i64 f1, .slice A1 n1 c1, .int .i64 d2, .int .i64 f2, .slice A2 n2 c2, .slice A3 n3 c3, .slice A4 P.length c4, .slice A5 n5 c5, .int .i64 m] 41)) := (Below.refl _ _).alloc (Nat.le_refl _) _
  have x0 := x.alloc (.cells #[.int .i64 d1, .int .i64 f1, .slice A1 n1 c1, .int .i64 d2, .int .i64 f2, .slice A2 n2 c2, .slice A3 n3 c3, .slice A4 P.length c4, .slice A5 n5 c5, .int .i64 m] 41)
  clear x
  generalize (w.alloc (.cells #[.int .i64 d1, .int .i64 f1, .slice A1 n1 c1, .int .i64 d2, .int .i64 f2, .slice A2 n2 c2, .slice A3 n3 c3, .slice A4 P.length c4, .slice A5 n5 c5, .int .i64 m] 41)) = w0 at *
  refine (u_heldDraftW d1 f1 d2 f2 A1 A2 A3 c1 c2 c3 n1 n2 n3 l1 h1 k w0 x0 hk0 (by omega) hn1 hn2 hn3).mono ?_
  rintro e w1 ⟨rfl, hb1⟩
  have hka1 := blk_next hka hb1
  have hbw1 : Below w.heap.size w w1 := hb0.trans (hb1.mono hb0.size)
  clear hka x0 hb0 hb1
  obtain ⟨hx0, hx1, hx2, hx3, hx4, hx5, hx6, hx7, hx8, hx9, hxl⟩ := blk10 hka1
  go_wp2_with fail
  clear hx0 hx1 hx2 hx3 hx4 hx5 hx6 hx7 hx8 hx9 hxl
  refine (u_heldItemS P A4 c4 L l2 h2 (k + n1 + n2 + 7 * (n3 : Int)) w1 (y.below hbw1) HP.out (by omega) (by omega) (unhide HO)).mono ?_
  rintro e w2 ⟨rfl, hb2⟩
  have hka2 := blk_next hka1 hb2
  have hbw2 : Below w.heap.size w w2 := hbw1.trans (hb2.mono hbw1.size)
  clear hka1 hbw1 hb2 y
  obtain ⟨hx0, hx1, hx2, hx3, hx4, hx5, hx6, hx7, hx8, hx9, hxl⟩ := blk10 hka2
  go_wp2_with fail
  clear hx0 hx1 hx2 hx3 hx4 hx5 hx6 hx7 hx8 hx9 hxl
  refine (l_heldPaperS w2.heap.size A5 n5 c5 (k + n1 + n2 + 7 * (n3 : Int) + (cntI P : Int)) w2 (Reads.of_own (own_below z hbw2)) (Nat.le_refl _) (by omega) (by omega) hn5).mono ?_
  rintro e w3 ⟨rfl, hb3⟩
  have hbw3 : Below w.heap.size w w3 := hbw2.trans (hb3.mono hbw2.size)
  clear hka2 hbw2 hb3 z
  go_wp2
  go_ret
  exact ⟨rfl, hbw3⟩
end Go.Proofs.YtdddglihomchfaaGreat
