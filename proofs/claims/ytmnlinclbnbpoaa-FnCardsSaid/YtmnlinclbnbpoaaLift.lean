/- From a walk to a law's row: what every law's main proof shares; a card argument opened. -/
import Derived.Test.YtmnlinclbnbpoaaLawKit
import Derived.Test.YtmnlinclbnbpoaaLift0
import Derived.Deep.Slices
import Derived.SliceStrings
import Derived.Lib.SmallJoins
import Derived.HandedShaped
namespace Go.Proofs.Ytmnlinclbnbpoaa
open Go.ChangeShapes Go.WideShapes Go.ChangeAt Go.RowKit
set_option linter.unusedVariables false
set_option maxRecDepth 10000

end Go.Proofs.Ytmnlinclbnbpoaa
