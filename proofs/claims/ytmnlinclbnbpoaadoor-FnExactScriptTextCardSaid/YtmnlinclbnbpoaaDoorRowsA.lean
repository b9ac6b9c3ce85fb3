/- Acts in rows. -/
import Derived.Test.YtmnlinclbnbpoaaDoorRows1
namespace Go.Proofs.YtmnlinclbnbpoaaDoor
open Go.ChangeShapes Go.WideShapes Go.ChangeAt Go.RowKit
set_option linter.unusedVariables false
set_option maxRecDepth 10000
structure PAct where
  (k a b : Int)
def actCells (s : PAct) : List Value := [.int .i64 s.k, .int .i64 s.a, .int .i64 s.b]
theorem actCells_len (s : PAct) : (actCells s).length = 3 := rfl
structure Acts (w : World) (B : Nat) (A : Option Addr) (n : Nat) (l : List PAct) : Prop where
  rd : Reads w B 3 A n (l.flatMap actCells)
  nb : n ≤ 16777216
section
variable {w w' : World} {B B' n : Nat} {A : Option Addr} {l : List PAct}
theorem Acts.len (h : Acts w B A n l) : l.length = n := by
  have := h.rd.1; rw [flat_len actCells_len] at this; omega
theorem Acts.below (h : Acts w B A n l) (hb : Below B w w') : Acts w' B A n l := ⟨h.rd.below hb, h.nb⟩
theorem Acts.more (h : Acts w B A n l) (hB : B ≤ B') : Acts w B' A n l := ⟨h.rd.more hB, h.nb⟩
theorem Acts.drewN (h : Acts w B A n l) (k : Nat) : Acts (w.drewN k) B A n l := ⟨h.rd.drewN k, h.nb⟩
theorem Acts.alloc (h : Acts w B A n l) (hB : B ≤ w.heap.size) (o : Obj) : Acts (w.alloc o) B A n l := ⟨h.rd.alloc hB o, h.nb⟩
theorem actCells_at {w : World} {B n : Nat} {A : Option Addr} {l : List PAct} {k : Nat} (hR : Reads w B 3 A n (l.flatMap actCells)) (hl : l.length = n) (hk : k < n) : ∃ (hk' : k < l.length) (ad : Addr), A = some ad ∧ ad.block < B ∧ w.cell? (ad.add (k * 3)) = some (.int .i64 l[k].k) ∧ w.cell? ⟨(ad.add (k * 3)).block, (ad.add (k * 3)).off + 1, none⟩ = some (.int .i64 l[k].a) ∧ w.cell? ⟨(ad.add (k * 3)).block, (ad.add (k * 3)).off + 2, none⟩ = some (.int .i64 l[k].b) := by
  have hk' : k < l.length := by omega
  obtain ⟨ad, e, hb, hc⟩ := hR.2 (by omega)
  have hg := fun j hj => flat_get actCells_len l k j hk' hj
  exact ⟨hk', ad, e, hb, hc _ _ (hg 0 (by omega)), by rw [← add_next _ _ _ (by omega)]; exact hc _ _ (hg 1 (by omega)), by rw [← add_next _ _ _ (by omega)]; exact hc _ _ (hg 2 (by omega))⟩
theorem Acts.at_ {k : Nat} (h : Acts w B A n l) (hk : k < n) : ∃ (hk' : k < l.length) (ad : Addr), A = some ad ∧ ad.block < B ∧ w.cell? (ad.add (k * 3)) = some (.int .i64 l[k].k) ∧ w.cell? ⟨(ad.add (k * 3)).block, (ad.add (k * 3)).off + 1, none⟩ = some (.int .i64 l[k].a) ∧ w.cell? ⟨(ad.add (k * 3)).block, (ad.add (k * 3)).off + 2, none⟩ = some (.int .i64 l[k].b) := by
  have hl := h.len
  have hk' : k < l.length := by omega
  obtain ⟨ad, e, hb, hc⟩ := h.rd.2 (by omega)
  have hg := fun j hj => flat_get actCells_len l k j hk' hj
  exact ⟨hk', ad, e, hb, hc _ _ (hg 0 (by omega)), by rw [← add_next _ _ _ (by omega)]; exact hc _ _ (hg 1 (by omega)), by rw [← add_next _ _ _ (by omega)]; exact hc _ _ (hg 2 (by omega))⟩
end
end Go.Proofs.YtmnlinclbnbpoaaDoor
