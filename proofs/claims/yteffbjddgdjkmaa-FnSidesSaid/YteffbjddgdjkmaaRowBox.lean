/- rows of Box in the laws -/
import Derived.Test.YteffbjddgdjkmaaRows1
import Derived.Test.YteffbjddgdjkmaaLawBox
namespace Go.Proofs.Yteffbjddgdjkmaa
open Go.ChangeShapes Go.WideShapes Go.ChangeAt Go.RowKit
set_option linter.unusedVariables false
set_option maxRecDepth 10000
theorem info_boxCells : (Try.prog.info? 35).map (fun i => (i.zero, i.size, i.bytes)) = some (some (.agg #[.int .i64 0, .int .i64 0, .int .i64 0]), 3, 24) := by kernel_rfl
def mkBox (k : Int) : List Value := [.int .i64 (k), .int .i64 (k + 1), .int .i64 (k + 1 + 1)]
theorem mkBox_len (k : Int) : (mkBox k).length = 3 := rfl
def marksBox (k : Int) (n : Nat) : List Value := (List.range n).flatMap fun (i : Nat) => mkBox (k + 3 * (i : Int))
theorem marksBox_len (k : Int) (n : Nat) : (marksBox k n).length = n * 3 := by unfold marksBox; rw [flat_len (fun (i : Nat) => mkBox_len _)]; simp
theorem marksBox_succ (k : Int) (n : Nat) : marksBox k (n + 1) = marksBox k n ++ mkBox (k + 3 * (n : Int)) := by unfold marksBox; rw [List.range_succ, flat_snoc]
theorem marksBox_get (k : Int) (n i j : Nat) (hi : i < n) (hj : j < 3) : (marksBox k n)[i * 3 + j]? = (mkBox (k + 3 * (i : Int)))[j]? := by
  unfold marksBox
  rw [flat_get (fun (i : Nat) => mkBox_len _) _ i j (by simpa using hi) hj]; simp
theorem drop_rowBox (xs : List Value) (n j : Nat) (hx : xs.length = n * 3) (hj : j < n) : ∃ z0 z1 z2 : Value, xs.drop (j * 3) = [z0, z1, z2] ++ xs.drop ((j + 1) * 3) := by
  have hlt : j * 3 + 3 ≤ xs.length := by rw [hx]; omega
  refine ⟨xs[j * 3], xs[j * 3 + 1], xs[j * 3 + 2], ?_⟩
  rw [show (j + 1) * 3 = j * 3 + 3 by omega]
  rw [List.drop_eq_getElem_cons (show j * 3 < xs.length by omega), List.drop_eq_getElem_cons (show j * 3 + 1 < xs.length by omega), List.drop_eq_getElem_cons (show j * 3 + 2 < xs.length by omega)]
  rfl
end Go.Proofs.Yteffbjddgdjkmaa
