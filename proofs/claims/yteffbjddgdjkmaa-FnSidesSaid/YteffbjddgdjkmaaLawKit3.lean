/- Small words for laws with rows of several cells an element; a []Box argument of a law. -/
import Derived.Test.YteffbjddgdjkmaaLawKit2
import Derived.Test.YteffbjddgdjkmaaRowBox
import Derived.Test.YteffbjddgdjkmaaLawStep
import Derived.Test.YteffbjddgdjkmaaRows2
namespace Go.Proofs.Yteffbjddgdjkmaa
open Go.ChangeShapes Go.WideShapes Go.ChangeAt Go.RowKit
set_option linter.unusedVariables false
set_option maxRecDepth 10000

section
variable {w w' : World} {base bg bx n m size size2 : Nat} {e e2 : TypeId} {v vg vx : Value} {xs : List Value}
theorem blk_markedk {g : Nat} {t : TypeId} {cs : Array Value} (h : w.heap[g]? = some (.cells cs t (0, 0))) (hg : w.grownBy w' v.ownBlock)
    (ho : w.ownsRow base e size v n xs) (hne : e ≠ t) : w'.heap[g]? = some (.cells cs t (0, 0)) := by
  refine (hg.block g (blk_lt h) ?_).trans h
  intro hv
  rcases ho.2 with ⟨rfl, _⟩ | ⟨g', cap, cur, rfl, _, hh, _⟩
  · simp [Value.ownBlock] at hv
  · have : g = g' := by simpa [Value.ownBlock] using hv
    subst this
    rw [h] at hh
    injection hh with hh
    injection hh with _ h2
    exact hne h2.symm
theorem own_newerk (hg : w.ownsRow bg e size vg n xs) (hx : ∀ k, vx.ownBlock = some k → k < bg) (h : w.grownBy w' vx.ownBlock) : w'.ownsRow bg e size vg n xs := by
  refine hg.kept h ?_
  cases hv : vg.ownBlock with
  | none => exact .inl rfl
  | some k =>
    refine .inr ?_
    intro he
    have h1 := (hg.lt k hv).1
    have h2 := hx k he.symm
    omega
theorem own_elderk (hg : w.ownsRow bg e size vg n xs) (hlt : ∀ k, vg.ownBlock = some k → k < bx) (hx : ∀ k, vx.ownBlock = some k → bx ≤ k) (h : w.grownBy w' vx.ownBlock) : w'.ownsRow bg e size vg n xs := by
  refine hg.kept h ?_
  cases hv : vg.ownBlock with
  | none => exact .inl rfl
  | some k =>
    refine .inr ?_
    intro he
    have h1 := hlt k hv
    have h2 := hx k he.symm
    omega
theorem below_markedk {B : Nat} (ho : w.ownsRow bx e size v n xs) (hg : w.grownBy w' v.ownBlock) (h1 : B ≤ bx) (h2 : B ≤ w.heap.size) : Below B w w' :=
  grown_below hg (fun k hk => Nat.le_trans h1 (ho.lt k hk).1) h2
theorem ltbk (h : w.ownsRow base e size v n xs) : ∀ k, v.ownBlock = some k → k < w.heap.size := fun k hk => (h.lt k hk).2
theorem gebk (h : w.ownsRow base e size v n xs) : ∀ k, v.ownBlock = some k → base ≤ k := fun k hk => (h.lt k hk).1
end
def szN (n : Nat) (left : Int) : Int := if left - n < 0 then -1 else left - n
theorem sz_ub_n (n : Nat) (l : Int) (h : l ≤ 1048576) : szN n l ≤ 1048576 := by unfold szN; split <;> omega
theorem n_of_sz {n : Nat} {l : Int} (hl : l ≤ 1048576) (h : 0 ≤ szN n l) : n ≤ 1048576 := by unfold szN at h; split at h <;> omega
end Go.Proofs.Yteffbjddgdjkmaa
