/- toPaper of the laws. -/
import Derived.Test.YtdddglihomchfaaGreatLift
namespace Go.Proofs.YtdddglihomchfaaGreat
open Go.ChangeShapes Go.WideShapes Go.ChangeAt Go.RowKit
set_option linter.unusedVariables false
set_option maxRecDepth 10000

set_option maxHeartbeats 400000 in
theorem l_toPaper (k a b : Int) (w : World) : Calls Tryz.prog 125 #[.agg #[.int .i64 k, .int .i64 a, .int .i64 b]] w fun e w' => e = .returned (.agg #[.int .i64 k, .int .i64 a, .int .i64 b]) ∧ Below w.heap.size w w' := by
  go_enter Tryz.func125, Tryz.ntmps125
  go_wp2
  refine bodyPost_ret (v := .agg #[.int .i64 k, .int .i64 a, .int .i64 b]) (by simp [results, Tryz.results125, go_sem]) rfl ?_
  exact ⟨rfl, (by repeat (first | (with_reducible exact Below.refl _ _) | (with_reducible assumption) | (with_reducible exact (‹_ ∧ _ ∧ Below _ _ _›).2.2) | (with_reducible refine below_drewN ?_ _) | (with_reducible refine Below.drew ?_) | ((with_reducible refine Below.alloc ?_ ?hsd _); (case hsd => (first | exact Nat.le_refl _ | (simp; done) | omega | (simp; omega) | exact (‹_ ∧ _ ∧ Below _ _ _›).2.2.size))) | ((with_reducible refine Below.setCell ?_ ?hsd _); (case hsd => (first | exact Nat.le_refl _ | (simp; done) | omega | (simp; omega) | exact (‹_ ∧ _ ∧ Below _ _ _›).2.2.size))) | ((with_reducible refine Below.trans ?_ (Below.mono (by with_reducible assumption) ?hsd)); (case hsd => (first | exact Nat.le_refl _ | (simp; done) | omega | (simp; omega) | exact (‹_ ∧ _ ∧ Below _ _ _›).2.2.size))) | exact Below.refl _ _ | assumption | exact (‹_ ∧ _ ∧ Below _ _ _›).2.2 | refine below_drewN ?_ _ | refine Below.drew ?_ | refine Below.alloc ?_ (by first | exact Nat.le_refl _ | (simp; done) | omega | (simp; omega) | exact (‹_ ∧ _ ∧ Below _ _ _›).2.2.size) _ | refine Below.setCell ?_ (by first | exact Nat.le_refl _ | (simp; done) | omega | (simp; omega) | exact (‹_ ∧ _ ∧ Below _ _ _›).2.2.size) _ | refine Below.trans ?_ (Below.mono (by assumption) (by first | exact Nat.le_refl _ | (simp; done) | omega | (simp; omega) | exact (‹_ ∧ _ ∧ Below _ _ _›).2.2.size))))⟩
end Go.Proofs.YtdddglihomchfaaGreat
