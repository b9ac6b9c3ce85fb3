/- The contracts of the reference's WithStrip of both packages. -/
import Derived.Test.YtmnlinclbnbpoaaMem2
namespace Go.Proofs.Ytmnlinclbnbpoaa
open Go.ChangeShapes Go.WideShapes Go.ChangeAt Go.RowKit
set_option linter.unusedVariables false

end Go.Proofs.Ytmnlinclbnbpoaa
