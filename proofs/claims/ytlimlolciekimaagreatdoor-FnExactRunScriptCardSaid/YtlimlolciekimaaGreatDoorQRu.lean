/- Contracts of the program's and the reference's functions (Draw1, Draw1b, Draw2). -/
import Derived.BigQuiet
import Derived.Deep.QuietTactic
import Derived.Deep.RegionLaw
import Derived.Laws.BitsLemmas
import Derived.Test.YtlimlolciekimaaGreatDoorRows
import Derived.Test.YtlimlolciekimaaGreatDoorQRb
namespace Go.Proofs.YtlimlolciekimaaGreatDoor
set_option maxHeartbeats 1600000
open Go.ChangeShapes Go.WideShapes Go.ChangeAt Go.RowKit
set_option linter.unusedVariables false
set_option maxRecDepth 10000
structure Zqv (w:World) (B:Nat) (A:Option Addr) (bs:List Int):Prop where
 rd:Zal w B 1 A bs.length (bs.map (Value.int .u8))
 nb:bs.length≤1048576
 bd:∀ x∈bs,0≤x∧x≤255
structure Cur (w:World) (g B:Nat) (A:Option Addr) (c:Nat) (bs:List Int):Prop where
 code:Zqv w B A bs
 lo:B≤g
 blk:∃ i h:Int,0≤i∧i≤bs.length∧w.heap[g]?=some (.cells #[.slice A bs.length c,.int .i64 i,.int .i64 h] 115 (0,0))
section
variable {w w':World} {g B:Nat} {A:Option Addr} {c:Nat} {bs:List Int}
end
open Go.ChangeShapes Go.WideShapes Go.ChangeAt Go.RowKit
set_option linter.unusedVariables false
set_option maxRecDepth 10000
def ZqE (n:Int) (g B:Nat) (A:Option Addr) (c:Nat) (bs:List Int) (w:World) (e:Ending) (w':World):Prop :=
 ∃ x:Int,e=.returned (.int .i64 x)∧0≤x∧x<n∧Cur w' g B A c bs∧w.grownBy w' (some g)
def ZqH (d f:Nat) (s:ByteArray):Prop:=cnt 100 s.data.toList=d∧cnt 102 s.data.toList=f∧s.size=d+f
end Go.Proofs.YtlimlolciekimaaGreatDoor
