/- Contracts of the program's and the reference's functions (RowsA). -/
import Derived.Test.YtlimlolciekimaaGreatDoorRows
import Derived.Test.YtlimlolciekimaaGreatDoorQFb
namespace Go.Proofs.YtlimlolciekimaaGreatDoor
open Go.ChangeShapes Go.WideShapes Go.ChangeAt Go.RowKit
set_option linter.unusedVariables false
set_option maxRecDepth 10000
structure PAct where
  (k a b : Int)
def actCells (s : PAct) : List Value := [.int .i64 s.k, .int .i64 s.a, .int .i64 s.b]
structure Acts (w : World) (B : Nat) (A : Option Addr) (n : Nat) (l : List PAct) : Prop where
  rd : Reads w B 3 A n (l.flatMap actCells)
  nb : n ≤ 16777216
section
variable {w w' : World} {B B' n : Nat} {A : Option Addr} {l : List PAct}
end
end Go.Proofs.YtlimlolciekimaaGreatDoor
