/- Contracts of the program's and the reference's functions (Run1, RunPlain). -/
import Derived.Test.YtlimlolciekimaaGreatDoorRows
import Derived.Test.YtlimlolciekimaaGreatDoorQGo
import Derived.Test.YtlimlolciekimaaGreatDoorQGq
import Derived.Test.YtlimlolciekimaaGreatDoorQGn
namespace Go.Proofs.YtlimlolciekimaaGreatDoor
set_option linter.unusedVariables false
def runAll (W : PWork) (xs : List Int) : List PAct → PWork × List Int
  | [] => (W, xs)
  | x :: l => runAll (doActRes W x.k x.a x.b).1 (xs ++ [(doActRes W x.k x.a x.b).2]) l
def runRes (W : PWork) (l : List PAct) : PWork × List Int := if workOk W = true ∧ l.length ≤ 40 then runAll W [] l else (W, [])
end Go.Proofs.YtlimlolciekimaaGreatDoor
namespace Go.Proofs.YtlimlolciekimaaGreatDoor
set_option linter.unusedVariables false
def replay (W : PWork) (l : List PAct) (ns : List Int) : Bool := workOk W && (decide (l.length ≤ 40) && decide ((runRes W l).2 = ns))
end Go.Proofs.YtlimlolciekimaaGreatDoor
