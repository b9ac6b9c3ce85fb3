/- rows of Box in the laws -/
import Derived.Test.YtdddglihomchfaaGreatRows1
import Derived.Test.YtdddglihomchfaaGreatLawBox
namespace Go.Proofs.YtdddglihomchfaaGreat
open Go.ChangeShapes Go.WideShapes Go.ChangeAt Go.RowKit
set_option linter.unusedVariables false
set_option maxRecDepth 10000
theorem info_boxCells : (Tryz.prog.info? 63).map (fun i => (i.zero, i.size, i.bytes)) = some (some (.agg #[.int .i64 0, .int .i64 0, .int .i64 0]), 3, 24) := by kernel_rfl
set_option maxHeartbeats 1600000 in
theorem l_eqBox_same (F L T : Int) (w : World) : Calls Tryz.prog 195 #[.agg #[.int .i64 F, .int .i64 L, .int .i64 T], .agg #[.int .i64 F, .int .i64 L, .int .i64 T]] w fun e w' => e = .returned (.bool true) ∧ Below w.heap.size w w' := by
  go_enter Tryz.func195, Tryz.ntmps195
  go_wp2
  go_ret
  exact ⟨rfl, (by repeat (first | (with_reducible exact Below.refl _ _) | (with_reducible assumption) | (with_reducible exact (‹_ ∧ _ ∧ Below _ _ _›).2.2) | (with_reducible refine below_drewN ?_ _) | (with_reducible refine Below.drew ?_) | ((with_reducible refine Below.alloc ?_ ?hsd _); (case hsd => (first | exact Nat.le_refl _ | (simp; done) | omega | (simp; omega) | exact (‹_ ∧ _ ∧ Below _ _ _›).2.2.size))) | ((with_reducible refine Below.setCell ?_ ?hsd _); (case hsd => (first | exact Nat.le_refl _ | (simp; done) | omega | (simp; omega) | exact (‹_ ∧ _ ∧ Below _ _ _›).2.2.size))) | ((with_reducible refine Below.trans ?_ (Below.mono (by with_reducible assumption) ?hsd)); (case hsd => (first | exact Nat.le_refl _ | (simp; done) | omega | (simp; omega) | exact (‹_ ∧ _ ∧ Below _ _ _›).2.2.size))) | exact Below.refl _ _ | assumption | exact (‹_ ∧ _ ∧ Below _ _ _›).2.2 | refine below_drewN ?_ _ | refine Below.drew ?_ | refine Below.alloc ?_ (by first | exact Nat.le_refl _ | (simp; done) | omega | (simp; omega) | exact (‹_ ∧ _ ∧ Below _ _ _›).2.2.size) _ | refine Below.setCell ?_ (by first | exact Nat.le_refl _ | (simp; done) | omega | (simp; omega) | exact (‹_ ∧ _ ∧ Below _ _ _›).2.2.size) _ | refine Below.trans ?_ (Below.mono (by assumption) (by first | exact Nat.le_refl _ | (simp; done) | omega | (simp; omega) | exact (‹_ ∧ _ ∧ Below _ _ _›).2.2.size))))⟩
def mkBox (k : Int) : List Value := [.int .i64 (k), .int .i64 (k + 1), .int .i64 (k + 1 + 1)]
theorem mkBox_len (k : Int) : (mkBox k).length = 3 := rfl
def marksBox (k : Int) (n : Nat) : List Value := (List.range n).flatMap fun (i : Nat) => mkBox (k + 3 * (i : Int))
theorem marksBox_len (k : Int) (n : Nat) : (marksBox k n).length = n * 3 := by unfold marksBox; rw [flat_len (fun (i : Nat) => mkBox_len _)]; simp
theorem marksBox_succ (k : Int) (n : Nat) : marksBox k (n + 1) = marksBox k n ++ mkBox (k + 3 * (n : Int)) := by unfold marksBox; rw [List.range_succ, flat_snoc]
theorem marksBox_get (k : Int) (n i j : Nat) (hi : i < n) (hj : j < 3) : (marksBox k n)[i * 3 + j]? = (mkBox (k + 3 * (i : Int)))[j]? := by
  unfold marksBox
  rw [flat_get (fun (i : Nat) => mkBox_len _) _ i j (by simpa using hi) hj]; simp
theorem drop_rowBox (xs : List Value) (n j : Nat) (hx : xs.length = n * 3) (hj : j < n) : ∃ z0 z1 z2 : Value, xs.drop (j * 3) = [z0, z1, z2] ++ xs.drop ((j + 1) * 3) := by
  have hlt : j * 3 + 3 ≤ xs.length := by rw [hx]; omega
  refine ⟨xs[j * 3], xs[j * 3 + 1], xs[j * 3 + 2], ?_⟩
  rw [show (j + 1) * 3 = j * 3 + 3 by omega]
  rw [List.drop_eq_getElem_cons (show j * 3 < xs.length by omega), List.drop_eq_getElem_cons (show j * 3 + 1 < xs.length by omega), List.drop_eq_getElem_cons (show j * 3 + 2 < xs.length by omega)]
  rfl
end Go.Proofs.YtdddglihomchfaaGreat
