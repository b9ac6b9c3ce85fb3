/- Contracts of the program's and the reference's functions (Flip1, Flip2, Box1, Box2). -/
import Derived.Lib.Strings
import Derived.WalkLawsBesides
import Derived.WalkSpells
import Derived.Test.YtccjedongkokoaaRows
import Derived.Test.YtccjedongkokoaaQTa
import Derived.Test.YtccjedongkokoaaQTb
namespace Go.Proofs.Ytccjedongkokoaa
open Go.ChangeShapes Go.WideShapes Go.ChangeAt Go.RowKit
set_option linter.unusedVariables false
set_option maxRecDepth 10000
def chr (s : ByteArray) (k : Int) : UInt8 := s.data.toList.getD k.toNat 0
def cornerAny (s : ByteArray) (k : Int) : Bool := inB k 1 ((s.size : Int) - 1) && (chr s (k - 1) != chr s k)
def cornerB (c : UInt8) (s : ByteArray) (k : Int) : Bool := (isStrip s.data.toList && cornerAny s k) && (chr s (k - 1) == c)
def swapL (l : List UInt8) (k : Nat) : List UInt8 := ((l.take (k - 1) ++ (l.drop k).take 1) ++ (l.drop (k - 1)).take 1) ++ l.drop (k + 1)
def swapB (s : ByteArray) (k : Int) : ByteArray := ⟨(swapL s.data.toList k.toNat).toArray⟩
end Go.Proofs.Ytccjedongkokoaa
namespace Go.Proofs.Ytccjedongkokoaa
open Go.ChangeShapes Go.WideShapes Go.ChangeAt Go.RowKit
set_option linter.unusedVariables false
set_option maxRecDepth 10000
def turnRes (c : UInt8) (s : ByteArray) (k : Int) : ByteArray := if cornerB c s k = true then swapB s k else s
end Go.Proofs.Ytccjedongkokoaa
namespace Go.Proofs.Ytccjedongkokoaa
open Go.ChangeShapes Go.WideShapes Go.ChangeAt Go.RowKit
set_option linter.unusedVariables false
set_option maxRecDepth 10000
def boxOk (d f : Int) (ss : List ByteArray) (n : Nat) (F L : Int) : Bool := (cardOk d f ss && inB F 0 L) && decide (L < (n : Int))
def flips (at_ : Int) (ss : List ByteArray) (F j : Nat) : List ByteArray := ss.mapIdx fun i s => if F ≤ i ∧ i < F + j then swapB s at_ else s
def allC (c : UInt8) (at_ : Int) (ss : List ByteArray) (F j : Nat) : Bool := ((ss.drop F).take j).all fun s => cornerB c s at_
def boxRes (c : UInt8) (d f : Int) (ss : List ByteArray) (F L at_ : Int) : List ByteArray × Bool :=
  if boxOk d f ss ss.length F L = true ∧ allC c at_ ss F.toNat (L.toNat + 1 - F.toNat) = true then (flips at_ ss F.toNat (L.toNat + 1 - F.toNat), true) else (ss, false)
end Go.Proofs.Ytccjedongkokoaa
