/- The contracts of the reference's WithStrip of both packages. -/
import Derived.Test.YtmnlinclbnbpoaaDoorMem2
namespace Go.Proofs.YtmnlinclbnbpoaaDoor
open Go.ChangeShapes Go.WideShapes Go.ChangeAt Go.RowKit
set_option linter.unusedVariables false

end Go.Proofs.YtmnlinclbnbpoaaDoor
