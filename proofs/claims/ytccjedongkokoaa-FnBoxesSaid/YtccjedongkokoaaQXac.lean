/- Contracts of the program's and the reference's functions (Fold1, Turn1, Mix2, Mix3, Turn2). -/
import Derived.BigQuiet
import Derived.Deep.AppendLies
import Derived.Deep.DeepCutAuto
import Derived.Deep.LoopGhost
import Derived.Deep.QuietTactic
import Derived.Deep.RegionHeld3
import Derived.Deep.RegionLaw
import Derived.Lib.ConvBytes
import Derived.Lib.Hide
import Derived.Lib.SlicesMore
import Derived.Sort.WalkB12
import Derived.Test.YtccjedongkokoaaRows
import Derived.Test.YtccjedongkokoaaQXc
import Derived.Test.YtccjedongkokoaaQXo
import Derived.Test.YtccjedongkokoaaQXb
import Derived.Test.YtccjedongkokoaaQXaa
namespace Go.Proofs.Ytccjedongkokoaa
open Go.ChangeShapes Go.WideShapes Go.ChangeAt Go.RowKit
set_option linter.unusedVariables false
set_option linter.unusedSimpArgs false
set_option maxRecDepth 10000
def cornN (s : ByteArray) : Nat → Nat
  | 0 => 0
  | j + 1 => cornN s j + if cornerAny s (j : Int) = true then 1 else 0
def cornL (s : ByteArray) : Nat := if isStrip s.data.toList = true then cornN s s.size else 0
def foldsOf (s : ByteArray) : Int := if isStrip s.data.toList = true then ((cornN s s.size : Nat) : Int) + (if chr s 0 = 102 then 1 else 0) + (if chr s ((s.size : Int) - 1) = 100 then 1 else 0) else -1
end Go.Proofs.Ytccjedongkokoaa
namespace Go.Proofs.Ytccjedongkokoaa
open Go.ChangeShapes Go.WideShapes Go.ChangeAt Go.RowKit Go.Sort
set_option linter.unusedVariables false
set_option linter.unusedSimpArgs false
set_option maxRecDepth 10000
def encU (x : UInt8) : Value := .int .u8 (x.toNat : Int)
def bytesV (l : List UInt8) : List Value := l.map encU
end Go.Proofs.Ytccjedongkokoaa
namespace Go.Proofs.Ytccjedongkokoaa
open Go.ChangeShapes Go.WideShapes Go.ChangeAt Go.RowKit
set_option linter.unusedVariables false
set_option linter.unusedSimpArgs false
set_option maxRecDepth 10000
def symRes (d f : Int) (ss : List ByteArray) : Int × Int × List ByteArray := if cardOk d f ss = true then (d, f, List.zipWith mixB ss ss.reverse) else (0, 0, [])
def CardN (N : Nat) (d f : Int) (xs : List Value) (w : World) (e : Ending) (w' : World) : Prop :=
  ∃ A c, e = .returned (.agg #[.int .i64 d, .int .i64 f, .slice A N c]) ∧ w'.ownsRow w.heap.size 9 1 (.slice A N c) N xs ∧ Below w.heap.size w w'
def CardNB (N : Nat) (d f : Int) (xs : List Value) (b : Bool) (w : World) (e : Ending) (w' : World) : Prop :=
  ∃ A c, e = .returned (.tuple #[.agg #[.int .i64 d, .int .i64 f, .slice A N c], .bool b]) ∧ w'.ownsRow w.heap.size 9 1 (.slice A N c) N xs ∧ Below w.heap.size w w'
end Go.Proofs.Ytccjedongkokoaa
