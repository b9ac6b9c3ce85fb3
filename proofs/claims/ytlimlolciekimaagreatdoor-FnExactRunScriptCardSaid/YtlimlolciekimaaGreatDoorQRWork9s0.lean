/- l39Bool of the reference. -/
import Derived.Test.YtlimlolciekimaaGreatDoorRows
import Derived.Test.YtlimlolciekimaaGreatDoorQRo
namespace Go.Proofs.YtlimlolciekimaaGreatDoor
set_option maxHeartbeats 1600000
open Go.ChangeShapes Go.WideShapes Go.ChangeAt Go.RowKit
set_option linter.unusedVariables false
set_option linter.unusedSimpArgs false
set_option maxRecDepth 10000
theorem Zjs (b:Bool) (w:World):Calls Tryz.prog 180 #[.bool b] w fun e w'=>e=.returned (.int .i64 (if b=true then 1 else 0))∧w=w':=by
 cases b
 ·go_enter Tryz.func180,Tryz.ntmps180
  go_wp2
  go_ret
  exact ⟨rfl,rfl⟩
 ·go_enter Tryz.func180,Tryz.ntmps180
  go_wp2
  go_ret
  exact ⟨rfl,rfl⟩
theorem Zmz {W:Zh} {k a b:Int} (h1:Zp W=true) (h2:ZaW k a b=true) (h8:¬k=8):Zs W k a b=((ZcB W k a b).1,if (ZcB W k a b).2=true then 1 else 0):=by unfold Zs;rw [if_pos ⟨h1,h2⟩,if_neg h8]
end Go.Proofs.YtlimlolciekimaaGreatDoor
