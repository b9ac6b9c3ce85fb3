/- Contracts of the program's and the reference's functions (Item7, Item8, Item9, Ins2, Item10, Item12). -/
import Derived.Deep.DeepCutAuto
import Derived.Deep.LoopGhost
import Derived.Deep.RegionLaw
import Derived.Lib.SliceRun
import Derived.Lib.SlicesDelete
import Derived.Shelf.Spec.SlicesInsertGrow
import Derived.WalkKit
import Derived.Test.YtlimlolciekimaaGreatDoorRows
import Derived.Test.YtlimlolciekimaaGreatDoorQFa
import Derived.Test.YtlimlolciekimaaGreatDoorQFk
import Derived.Test.YtlimlolciekimaaGreatDoorQFi
import Derived.Test.YtlimlolciekimaaGreatDoorQFb
namespace Go.Proofs.YtlimlolciekimaaGreatDoor
open Go.ChangeShapes Go.WideShapes Go.ChangeAt Go.RowKit
set_option linter.unusedVariables false
set_option maxRecDepth 10000
def idxNm (P : List PItem) (name : ByteArray) : Option Nat := P.findIdx? fun x => decide (x.nm = name)
def noNm (P : List PItem) (name : ByteArray) (j : Nat) : Prop := ∀ i, i < j → ∀ x, P[i]? = some x → x.nm ≠ name
def idxI (P : List PItem) (name : ByteArray) : Int := match idxNm P name with | some k => k | none => -1
def named (P : List PItem) (name : ByteArray) : (Int × Int) × (List ByteArray × Bool) :=
  if catOk P = true then match idxNm P name with | some k => (match P[k]? with | some x => ((x.d, x.f), (x.ss, true)) | none => ((0, 0), ([], false))) | none => ((0, 0), ([], false)) else ((0, 0), ([], false))
end Go.Proofs.YtlimlolciekimaaGreatDoor
namespace Go.Proofs.YtlimlolciekimaaGreatDoor
open Go.ChangeShapes Go.WideShapes Go.ChangeAt Go.RowKit
set_option linter.unusedVariables false
set_option maxRecDepth 10000
def dropped (P : List PItem) (name : ByteArray) : List PItem × Bool :=
  if catOk P = true then match idxNm P name with | some k => (P.take k ++ P.drop (k + 1), true) | none => (P, false) else (P, false)
def UItemsB (P : List PItem) (b : Bool) (w : World) (e : Ending) (w' : World) : Prop :=
  ∃ A c L, e = .returned (.tuple #[.slice A P.length c, .bool b]) ∧ plI L = P ∧ OwnItems w' w.heap.size w'.heap.size A P.length c L ∧ Below w.heap.size w w'
end Go.Proofs.YtlimlolciekimaaGreatDoor
namespace Go.Proofs.YtlimlolciekimaaGreatDoor
open Go.ChangeShapes Go.WideShapes Go.ChangeAt Go.RowKit
set_option linter.unusedVariables false
set_option maxRecDepth 10000
def nmLt (a b : ByteArray) : Bool := Op.bytesLess a.toList b.toList
def posOf : List PItem → ByteArray → Nat
  | [], _ => 0
  | x :: l, nm => if nmLt x.nm nm = true then posOf l nm + 1 else 0
def allLt (P : List PItem) (nm : ByteArray) (j : Nat) : Prop := ∀ i, i < j → ∀ x, P[i]? = some x → nmLt x.nm nm = true
def insP (P : List PItem) (x : PItem) (j : Nat) : List PItem := P.take j ++ x :: P.drop j
def added (P : List PItem) (x : PItem) : List PItem × Bool :=
  if catOk P = true then if catOk (insP P x (posOf P x.nm)) = true then (insP P x (posOf P x.nm), true) else (P, false) else (P, false)
end Go.Proofs.YtlimlolciekimaaGreatDoor
