/- The contracts of MirrorCard of both packages. -/
import Derived.Test.YtmnlinclbnbpoaaDoorCard4
import Derived.Deep.RegionLaw
namespace Go.Proofs.YtmnlinclbnbpoaaDoor
open Go.ChangeShapes Go.WideShapes Go.ChangeAt Go.RowKit
set_option linter.unusedVariables false
set_option maxRecDepth 10000

def mirrorRes (d f : Int) (ss : List ByteArray) : Int × Int × List ByteArray := if cardOk d f ss = true then (d, f, ss.reverse) else (0, 0, [])

end Go.Proofs.YtmnlinclbnbpoaaDoor
