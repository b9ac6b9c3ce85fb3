/- Contracts of the program's and the reference's functions (Item7, Item8, Item9, Item10, Item11). -/
import Derived.Deep.DeepCutAuto
import Derived.Deep.LoopGhost
import Derived.Deep.RegionHeld3
import Derived.Deep.RegionLaw
import Derived.Lib.SliceRun
import Derived.Lib.SlicesDelete
import Derived.WalkKit
import Derived.Test.YtccjedongkokoaaRows
import Derived.Test.YtccjedongkokoaaQTa
import Derived.Test.YtccjedongkokoaaQTk
import Derived.Test.YtccjedongkokoaaQTi
import Derived.Test.YtccjedongkokoaaQTb
namespace Go.Proofs.Ytccjedongkokoaa
open Go.ChangeShapes Go.WideShapes Go.ChangeAt Go.RowKit
set_option linter.unusedVariables false
set_option maxRecDepth 10000
def idxNm (P : List PItem) (name : ByteArray) : Option Nat := P.findIdx? fun x => decide (x.nm = name)
def noNm (P : List PItem) (name : ByteArray) (j : Nat) : Prop := ∀ i, i < j → ∀ x, P[i]? = some x → x.nm ≠ name
def idxI (P : List PItem) (name : ByteArray) : Int := match idxNm P name with | some k => k | none => -1
def named (P : List PItem) (name : ByteArray) : (Int × Int) × (List ByteArray × Bool) :=
  if catOk P = true then match idxNm P name with | some k => (match P[k]? with | some x => ((x.d, x.f), (x.ss, true)) | none => ((0, 0), ([], false))) | none => ((0, 0), ([], false)) else ((0, 0), ([], false))
end Go.Proofs.Ytccjedongkokoaa
namespace Go.Proofs.Ytccjedongkokoaa
open Go.ChangeShapes Go.WideShapes Go.ChangeAt Go.RowKit
set_option linter.unusedVariables false
set_option maxRecDepth 10000
def dropped (P : List PItem) (name : ByteArray) : List PItem × Bool :=
  if catOk P = true then match idxNm P name with | some k => (P.take k ++ P.drop (k + 1), true) | none => (P, false) else (P, false)
def UItemsB (P : List PItem) (b : Bool) (w : World) (e : Ending) (w' : World) : Prop :=
  ∃ A c L, e = .returned (.tuple #[.slice A P.length c, .bool b]) ∧ plI L = P ∧ OwnItems w' w.heap.size w'.heap.size A P.length c L ∧ Below w.heap.size w w'
end Go.Proofs.Ytccjedongkokoaa
