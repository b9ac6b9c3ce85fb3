/- The contracts of IsStrip, DownOf, ForwardOf, isSteps, l02Frame of both packages. -/
import Derived.Test.YtlimlolciekimaaDoorStr1
import Derived.Test.YtlimlolciekimaaDoorShelf
namespace Go.Proofs.YtlimlolciekimaaDoor
open Go.ChangeShapes Go.WideShapes Go.ChangeAt Go.RowKit

def downOf (l : List UInt8) : Int := if isStrip l = true then cnt 100 l else 0
def forwardOf (l : List UInt8) : Int := if isStrip l = true then cnt 102 l else 0
def isStepsB (n : Int) : Bool := inB n 1 8



end Go.Proofs.YtlimlolciekimaaDoor
