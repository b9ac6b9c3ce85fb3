/- Contracts of the program's and the reference's functions (Act1, Act2, Area1, Area2, Area3, RoomV, Room, Work8). -/
import Derived.Deep.RegionHeld3
import Derived.Deep.Upon
import Derived.IntWalk
import Derived.WalkLawsBesides
import Derived.WalkSpells
import Derived.Test.YtlimlolciekimaaGreatDoorRows
import Derived.Test.YtlimlolciekimaaGreatDoorQGa
import Derived.Test.YtlimlolciekimaaGreatDoorQGb
import Derived.Test.YtlimlolciekimaaGreatDoorQGf
import Derived.Test.YtlimlolciekimaaGreatDoorQGn
namespace Go.Proofs.YtlimlolciekimaaGreatDoor
open Go.ChangeShapes Go.WideShapes Go.ChangeAt Go.RowKit
set_option linter.unusedVariables false
def actOk (k a b : Int) : Bool :=
  if (k == 1 || k == 2) = true then inB a 0 9 && inB b 1 15
  else if (k == 4 || k == 6) = true then inB a 0 9 && inB b 1 1000
  else if (k == 5 || k == 7) = true then inB a 0 9 && (b == 0)
  else if (k == 3 || k == 8) = true then (a == 0) && (b == 0)
  else false
end Go.Proofs.YtlimlolciekimaaGreatDoor
namespace Go.Proofs.YtlimlolciekimaaGreatDoor
open Go.ChangeShapes Go.WideShapes Go.ChangeAt Go.RowKit
set_option linter.unusedVariables false
set_option maxRecDepth 10000
def nameOf (n : Int) : ByteArray := if inB n 0 9 = true then ⟨#[(97 + n.toNat).toUInt8, (97 + n.toNat).toUInt8]⟩ else ByteArray.empty
set_option maxHeartbeats 1600000 in
theorem i_NameFor (n : Int) (w : World) (h0 : 0 ≤ n) (h1 : n ≤ 9) : Calls Tryz.prog 30 #[.int .i64 n] w fun e w' => e = .returned (.string (nameOf n)) ∧ Below w.heap.size w w' := by
  have h2 : n = 0 ∨ n = 1 ∨ n = 2 ∨ n = 3 ∨ n = 4 ∨ n = 5 ∨ n = 6 ∨ n = 7 ∨ n = 8 ∨ n = 9 := by omega
  clear h0 h1
  rcases h2 with rfl | rfl | rfl | rfl | rfl | rfl | rfl | rfl | rfl | rfl
  all_goals
    go_enter Tryz.func30, Tryz.ntmps30
    go_wp2
    go_ret
    exact ⟨rfl, bel⟩
end Go.Proofs.YtlimlolciekimaaGreatDoor
namespace Go.Proofs.YtlimlolciekimaaGreatDoor
open Go.ChangeShapes Go.WideShapes Go.ChangeAt Go.RowKit
set_option linter.unusedVariables false
set_option maxRecDepth 10000
def sameFrame (a b : List UInt8) : Bool := (isStrip a && isStrip b) && ((cnt 100 a == cnt 100 b) && (cnt 102 a == cnt 102 b))
def hgt (u : Int) : List UInt8 → Int
  | [] => u
  | c :: l => if c = 102 then hgt u l else hgt (u - 1) l
def hts (u : Int) : List UInt8 → List Int
  | [] => []
  | c :: l => if c = 102 then u :: hts u l else hts (u - 1) l
def htsOf (l : List UInt8) : List Int := hts (cnt 100 l) l
theorem info_int : (Tryz.prog.info? 3).map (fun i => (i.zero, i.size, i.bytes)) = some (some (.int .i64 0), 1, 8) := by kernel_rfl
def ints (l : List Int) : List Value := l.map (Value.int .i64)
def FreshInts (base : Nat) (l : List Int) (w : World) (e : Ending) (w' : World) : Prop :=
  ∃ A c, e = .returned (.slice A l.length c) ∧ w'.ownsRow base 3 1 (.slice A l.length c) l.length (ints l) ∧ Below w.heap.size w w'
end Go.Proofs.YtlimlolciekimaaGreatDoor
namespace Go.Proofs.YtlimlolciekimaaGreatDoor
open Go.ChangeShapes Go.WideShapes Go.ChangeAt Go.RowKit
set_option linter.unusedVariables false
set_option maxRecDepth 10000
def areaL : List Int → List Int → Int
  | a :: l, b :: m => max (a - b) (b - a) + areaL l m
  | _, _ => 0
def areaOf (s t : List UInt8) : Int := if sameFrame s t = true then areaL (htsOf s) (htsOf t) else -1
end Go.Proofs.YtlimlolciekimaaGreatDoor
namespace Go.Proofs.YtlimlolciekimaaGreatDoor
open Go.ChangeShapes Go.WideShapes Go.ChangeAt Go.RowKit
set_option linter.unusedVariables false
set_option maxRecDepth 10000
def sumL : List Int → Int
  | [] => 0
  | a :: l => a + sumL l
def roomOf (s : List UInt8) : Int := if isStrip s = true then sumL (htsOf s) else -1
def volL : List ByteArray → Int
  | [] => 0
  | a :: l => roomOf a.data.toList + volL l
def volOf (d f : Int) (ss : List ByteArray) : Int := if cardOk d f ss = true then volL ss else -1
end Go.Proofs.YtlimlolciekimaaGreatDoor
namespace Go.Proofs.YtlimlolciekimaaGreatDoor
open Go.ChangeShapes Go.WideShapes Go.ChangeAt Go.RowKit
set_option linter.unusedVariables false
set_option maxRecDepth 10000
def gainOf (D : PDraft) : Int := if draftOk D = true then volOf D.d2 D.f2 D.ss2 - volOf D.d1 D.f1 D.ss1 else 0
end Go.Proofs.YtlimlolciekimaaGreatDoor
namespace Go.Proofs.YtlimlolciekimaaGreatDoor
open Go.ChangeShapes Go.WideShapes Go.ChangeAt Go.RowKit
set_option linter.unusedVariables false
set_option linter.unusedSimpArgs false
set_option maxRecDepth 10000
def perf (W : PWork) (k a b : Int) : PWork × Bool :=
  if k = 1 then shapeRes W (PStep.mk 1 a a b 0 ByteArray.empty ByteArray.empty) else if k = 2 then shapeRes W (PStep.mk 2 a a b 0 ByteArray.empty ByteArray.empty) else if k = 3 then unshapeRes W else if k = 4 then buyRes W a b else if k = 5 then keepRes W (nameOf a) else if k = 6 then makeRes W (nameOf a) a b else forgetRes W (nameOf a)
def doActRes (W : PWork) (k a b : Int) : PWork × Int :=
  if workOk W = true ∧ actOk k a b = true then (if k = 8 then (W, volOf W.D.d2 W.D.f2 W.D.ss2) else ((perf W k a b).1, if (perf W k a b).2 = true then 1 else 0)) else (W, -1)
end Go.Proofs.YtlimlolciekimaaGreatDoor
