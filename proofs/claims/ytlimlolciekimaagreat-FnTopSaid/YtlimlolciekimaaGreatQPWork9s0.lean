/- l39Bool of the reference. -/
import Derived.Test.YtlimlolciekimaaGreatRows
import Derived.Test.YtlimlolciekimaaGreatQPo
namespace Go.Proofs.YtlimlolciekimaaGreat
set_option maxHeartbeats 1600000
open Go.ChangeShapes Go.WideShapes Go.ChangeAt Go.RowKit
set_option linter.unusedVariables false
set_option linter.unusedSimpArgs false
set_option maxRecDepth 10000
theorem s_l39Bool (b:Bool) (w:World):Calls Tryz.prog 32 #[.bool b] w fun e w'=>e=.returned (.int .i64 (if b=true then 1 else 0))∧w=w':=by
 cases b
 ·go_enter Tryz.func32,Tryz.ntmps32
  go_wp2
  go_ret
  exact ⟨rfl,rfl⟩
 ·go_enter Tryz.func32,Tryz.ntmps32
  go_wp2
  go_ret
  exact ⟨rfl,rfl⟩
theorem act_any {W:PWork} {k a b:Int} (h1:workOk W=true) (h2:actOk k a b=true) (h8:¬k=8):doActRes W k a b=((perf W k a b).1,if (perf W k a b).2=true then 1 else 0):=by unfold doActRes;rw [if_pos ⟨h1,h2⟩,if_neg h8]
end Go.Proofs.YtlimlolciekimaaGreat
