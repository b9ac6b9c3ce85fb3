/- Small words for the walks of the laws over cards. -/
import Derived.Test.YtlimlolciekimaaDoorMem2
namespace Go.Proofs.YtlimlolciekimaaDoor
open Go.ChangeShapes Go.WideShapes Go.ChangeAt Go.RowKit
set_option linter.unusedVariables false
set_option maxRecDepth 10000

theorem blk_next {g : Nat} {w w' : World} {o : Obj} (h : w.heap[g]? = some o) (hb : Below w.heap.size w w') : w'.heap[g]? = some o := blk_below h hb (blk_lt h)
theorem blk3 {w : World} {g : Nat} {t : TypeId} {a b c : Value} (h : w.heap[g]? = some (.cells #[a, b, c] t (0, 0))) :
    w.cell? ⟨g, 0, none⟩ = some a ∧ w.cell? ⟨g, 1, none⟩ = some b ∧ w.cell? ⟨g, 2, none⟩ = some c ∧ g < w.heap.size :=
  ⟨(blk_cells h 0).1, (blk_cells h 1).1, (blk_cells h 2).1, blk_lt h⟩
theorem blk_marked {w w' : World} {g : Nat} {t : TypeId} {cs : Array Value} {base n : Nat} {e : TypeId} {v : Value} {xs : List Value} (h : w.heap[g]? = some (.cells cs t (0, 0))) (hg : w.grownBy w' v.ownBlock)
    (ho : w.ownsRow base e 1 v n xs) (hne : e ≠ t) : w'.heap[g]? = some (.cells cs t (0, 0)) := by
  refine (hg.block g (blk_lt h) ?_).trans h
  intro hv
  rcases ho.2 with ⟨rfl, _⟩ | ⟨g', cap, cur, rfl, _, hh, _⟩
  · simp [Value.ownBlock] at hv
  · have : g = g' := by simpa [Value.ownBlock] using hv
    subst this
    rw [h] at hh
    injection hh with hh
    injection hh with _ h2
    exact hne h2.symm
/-- what is owned from a block on stays owned when an elder row is written -/
theorem own_newer {w w' : World} {bg n : Nat} {e : TypeId} {vg vx : Value} {xs : List Value} (hg : w.ownsRow bg e 1 vg n xs) (hx : ∀ k, vx.ownBlock = some k → k < bg) (h : w.grownBy w' vx.ownBlock) : w'.ownsRow bg e 1 vg n xs := by
  refine hg.kept h ?_
  cases hv : vg.ownBlock with
  | none => exact .inl rfl
  | some k =>
    refine .inr ?_
    intro he
    have h1 := (hg.lt k hv).1
    have h2 := hx k he.symm
    omega
/-- what is owned stays owned when a younger row is written -/
theorem own_elder {w w' : World} {bg n bx : Nat} {e : TypeId} {vg vx : Value} {xs : List Value} (hg : w.ownsRow bg e 1 vg n xs) (hlt : ∀ k, vg.ownBlock = some k → k < bx) (hx : ∀ k, vx.ownBlock = some k → bx ≤ k) (h : w.grownBy w' vx.ownBlock) : w'.ownsRow bg e 1 vg n xs := by
  refine hg.kept h ?_
  cases hv : vg.ownBlock with
  | none => exact .inl rfl
  | some k =>
    refine .inr ?_
    intro he
    have h1 := hlt k hv
    have h2 := hx k he.symm
    omega
theorem below_marked {w w' : World} {B bx n : Nat} {e : TypeId} {v : Value} {xs : List Value} (ho : w.ownsRow bx e 1 v n xs) (hg : w.grownBy w' v.ownBlock) (h1 : B ≤ bx) (h2 : B ≤ w.heap.size) : Below B w w' :=
  grown_below hg (fun k hk => Nat.le_trans h1 (ho.lt k hk).1) h2
theorem ltb {w : World} {base n : Nat} {e : TypeId} {v : Value} {xs : List Value} (h : w.ownsRow base e 1 v n xs) : ∀ k, v.ownBlock = some k → k < w.heap.size := fun k hk => (h.lt k hk).2
theorem geb {w : World} {base n : Nat} {e : TypeId} {v : Value} {xs : List Value} (h : w.ownsRow base e 1 v n xs) : ∀ k, v.ownBlock = some k → base ≤ k := fun k hk => (h.lt k hk).1
end Go.Proofs.YtlimlolciekimaaDoor
