/- Contracts of the program's and the reference's functions (RowsA, RowInt, RowAct, OwnA). -/
import Derived.Test.YtlimlolciekimaaGreatDoorRows
import Derived.Test.YtlimlolciekimaaGreatDoorQGb
import Derived.Test.YtlimlolciekimaaGreatDoorQGo
namespace Go.Proofs.YtlimlolciekimaaGreatDoor
open Go.ChangeShapes Go.WideShapes Go.ChangeAt Go.RowKit
set_option linter.unusedVariables false
set_option maxRecDepth 10000
structure PAct where
  (k a b : Int)
def actCells (s : PAct) : List Value := [.int .i64 s.k, .int .i64 s.a, .int .i64 s.b]
structure Acts (w : World) (B : Nat) (A : Option Addr) (n : Nat) (l : List PAct) : Prop where
  rd : Reads w B 3 A n (l.flatMap actCells)
  nb : n ≤ 16777216
section
variable {w w' : World} {B B' n : Nat} {A : Option Addr} {l : List PAct}
end
end Go.Proofs.YtlimlolciekimaaGreatDoor
namespace Go.Proofs.YtlimlolciekimaaGreatDoor
open Go.ChangeShapes Go.WideShapes Go.ChangeAt Go.RowKit
set_option linter.unusedVariables false
set_option maxRecDepth 10000
structure OwnN (w : World) (lo hi : Nat) (A : Option Addr) (c : Nat) (l : List Int) : Prop where
  row : w.ownsRow lo 3 1 (.slice A l.length c) l.length (ints l)
  top : ∀ k, (Value.slice A l.length c).ownBlock = some k → k < hi
def marksN (k : Int) (n : Nat) : List Value := (List.range n).map fun i => Value.int .i64 (k + (i : Nat))
structure MkN (w : World) (lo hi : Nat) (A : Option Addr) (c : Nat) (k : Int) (n : Nat) : Prop where
  row : w.ownsRow lo 3 1 (.slice A n c) n (marksN k n)
  top : ∀ k, (Value.slice A n c).ownBlock = some k → k < hi
section
variable {lo hi lo' hi' : Nat} {w w' : World} {A : Option Addr} {c n : Nat} {l : List Int} {k : Int}
theorem OwnN.boxy (ho : OwnN w lo hi A c l) (h : Boxy w w') : OwnN w' lo hi A c l := ⟨own_boxy ho.row (by decide) h, ho.top⟩
theorem OwnN.of (ho : w.ownsRow lo 3 1 (.slice A l.length c) l.length (ints l)) (h : w.heap.size ≤ hi) : OwnN w lo hi A c l := ⟨ho, fun k hk => by have := (ho.lt k hk).2; omega⟩
end
def UInts (l : List Int) (w : World) (e : Ending) (w' : World) : Prop :=
  ∃ A c, e = .returned (.slice A l.length c) ∧ OwnN w' w.heap.size w'.heap.size A c l ∧ Below w.heap.size w w'
end Go.Proofs.YtlimlolciekimaaGreatDoor
namespace Go.Proofs.YtlimlolciekimaaGreatDoor
open Go.ChangeShapes Go.WideShapes Go.ChangeAt Go.RowKit
set_option linter.unusedVariables false
set_option maxRecDepth 10000
theorem info_actCells : (Tryz.prog.info? 61).map (fun i => (i.zero, i.size, i.bytes)) = some (some (.agg #[.int .i64 0, .int .i64 0, .int .i64 0]), 3, 24) := by kernel_rfl
def mkAct (k : Int) : List Value := [.int .i64 (k), .int .i64 (k + 1), .int .i64 (k + 1 + 1)]
def marksAct (k : Int) (n : Nat) : List Value := (List.range n).flatMap fun (i : Nat) => mkAct (k + 3 * (i : Int))
end Go.Proofs.YtlimlolciekimaaGreatDoor
namespace Go.Proofs.YtlimlolciekimaaGreatDoor
open Go.ChangeShapes Go.WideShapes Go.ChangeAt Go.RowKit
set_option linter.unusedVariables false
set_option maxRecDepth 10000
structure OwnA (w : World) (lo hi : Nat) (A : Option Addr) (c : Nat) (l : List PAct) : Prop where
  row : w.ownsRow lo 61 3 (.slice A l.length c) l.length (l.flatMap actCells)
  top : ∀ k, (Value.slice A l.length c).ownBlock = some k → k < hi
section
variable {lo hi lo' hi' : Nat} {w w' : World} {A : Option Addr} {c : Nat} {l : List PAct}
theorem OwnA.boxy (ho : OwnA w lo hi A c l) (h : Boxy w w') : OwnA w' lo hi A c l := ⟨own_boxy ho.row (by decide) h, ho.top⟩
theorem OwnA.wide (ho : OwnA w lo hi A c l) (h1 : lo' ≤ lo) (h2 : hi ≤ hi') : OwnA w lo' hi' A c l := ⟨own_base ho.row h1, fun k hk => by have := ho.top k hk; omega⟩
theorem OwnA.of (ho : w.ownsRow lo 61 3 (.slice A l.length c) l.length (l.flatMap actCells)) (h : w.heap.size ≤ hi) : OwnA w lo hi A c l := ⟨ho, fun k hk => by have := (ho.lt k hk).2; omega⟩
end
structure MkA (w : World) (lo hi : Nat) (A : Option Addr) (c : Nat) (k : Int) (n : Nat) : Prop where
  row : w.ownsRow lo 61 3 (.slice A n c) n (marksAct k n)
  top : ∀ k, (Value.slice A n c).ownBlock = some k → k < hi
def UActs (l : List PAct) (w : World) (e : Ending) (w' : World) : Prop :=
  ∃ A c, e = .returned (.slice A l.length c) ∧ OwnA w' w.heap.size w'.heap.size A c l ∧ Below w.heap.size w w'
end Go.Proofs.YtlimlolciekimaaGreatDoor
