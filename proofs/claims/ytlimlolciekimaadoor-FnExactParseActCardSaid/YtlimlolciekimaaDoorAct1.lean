/- The contracts of toAct and ActOk of both packages. -/
import Derived.Test.YtlimlolciekimaaDoorStr1
import Derived.Test.YtlimlolciekimaaDoorMem
import Derived.WalkSpells
import Derived.WalkLawsBesides
namespace Go.Proofs.YtlimlolciekimaaDoor
open Go.ChangeShapes Go.WideShapes Go.ChangeAt Go.RowKit
set_option linter.unusedVariables false

def actOk (k a b : Int) : Bool :=
  if (k == 1 || k == 2) = true then inB a 0 9 && inB b 1 15
  else if (k == 4 || k == 6) = true then inB a 0 9 && inB b 1 1000
  else if (k == 5 || k == 7) = true then inB a 0 9 && (b == 0)
  else if (k == 3 || k == 8) = true then (a == 0) && (b == 0)
  else false
set_option maxHeartbeats 1000000 in
theorem i_ActOk (k a b : Int) (w : World) : Calls Tryd.prog 23 #[.agg #[.int .i64 k, .int .i64 a, .int .i64 b]] w fun e w' => e = .returned (.bool (actOk k a b)) ∧ Below w.heap.size w w' := by
  go_enter Tryd.func23, Tryd.ntmps23
  go_wp2_with (first | (go_at_call 21; refine (i_within _ _ _ _).mono ?_; rintro e w' ⟨rfl, rfl⟩))
  all_goals
    go_ret
    exact ⟨ret_bool (by simp [actOk, *]), bel⟩
set_option maxHeartbeats 1000000 in
theorem s_ActOk (k a b : Int) (w : World) : Calls Tryd.prog 17 #[.agg #[.int .i64 k, .int .i64 a, .int .i64 b]] w fun e w' => e = .returned (.bool (actOk k a b)) ∧ Below w.heap.size w w' := by
  go_enter Tryd.func17, Tryd.ntmps17
  go_wp2_with (first | (go_at_call 8; refine (s_l01In _ _ _ _).mono ?_; rintro e w' ⟨rfl, rfl⟩))
  all_goals
    go_ret
    exact ⟨ret_bool (by simp [actOk, *]), bel⟩
end Go.Proofs.YtlimlolciekimaaDoor
