/- toBox of the laws, and a Box argument opened. -/
import Derived.Test.YteffbjddgdjkmaaLift
namespace Go.Proofs.Yteffbjddgdjkmaa
open Go.ChangeShapes Go.WideShapes Go.ChangeAt Go.RowKit
set_option linter.unusedVariables false
set_option maxRecDepth 10000


end Go.Proofs.Yteffbjddgdjkmaa
