/- toBox of the laws, and a Box argument opened. -/
import Derived.Test.YtmnlinclbnbpoaaLift
namespace Go.Proofs.Ytmnlinclbnbpoaa
open Go.ChangeShapes Go.WideShapes Go.ChangeAt Go.RowKit
set_option linter.unusedVariables false
set_option maxRecDepth 10000


end Go.Proofs.Ytmnlinclbnbpoaa
