/- Contracts of the program's and the reference's functions (Box3, Box4). -/
import Derived.Deep.RegionHeld3
import Derived.Test.YtccjedongkokoaaRows
import Derived.Test.YtccjedongkokoaaQTc
namespace Go.Proofs.Ytccjedongkokoaa
open Go.ChangeShapes Go.WideShapes Go.ChangeAt Go.RowKit
set_option linter.unusedVariables false
set_option maxRecDepth 10000
def canAdd (d f : Int) (ss : List ByteArray) (F L T : Int) : Bool := boxOk d f ss ss.length F L && allC 100 T ss F.toNat (L.toNat + 1 - F.toNat)
end Go.Proofs.Ytccjedongkokoaa
