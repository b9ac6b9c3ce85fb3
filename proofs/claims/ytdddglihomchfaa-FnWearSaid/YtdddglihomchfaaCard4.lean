/- The contracts of the reference's WithStrip of both packages. -/
import Derived.Test.YtdddglihomchfaaMem2
namespace Go.Proofs.Ytdddglihomchfaa
open Go.ChangeShapes Go.WideShapes Go.ChangeAt Go.RowKit
set_option linter.unusedVariables false

end Go.Proofs.Ytdddglihomchfaa
