/- Contracts of the program's and the reference's functions (RowInt). -/
import Derived.Test.YteffbjddgdjkmaaRows
import Derived.Test.YteffbjddgdjkmaaQDo
import Derived.Test.YteffbjddgdjkmaaQDb
namespace Go.Proofs.Yteffbjddgdjkmaa
open Go.ChangeShapes Go.WideShapes Go.ChangeAt Go.RowKit
set_option linter.unusedVariables false
set_option maxRecDepth 10000
structure OwnN (w : World) (lo hi : Nat) (A : Option Addr) (c : Nat) (l : List Int) : Prop where
  row : w.ownsRow lo 3 1 (.slice A l.length c) l.length (ints l)
  top : ∀ k, (Value.slice A l.length c).ownBlock = some k → k < hi
def marksN (k : Int) (n : Nat) : List Value := (List.range n).map fun i => Value.int .i64 (k + (i : Nat))
structure MkN (w : World) (lo hi : Nat) (A : Option Addr) (c : Nat) (k : Int) (n : Nat) : Prop where
  row : w.ownsRow lo 3 1 (.slice A n c) n (marksN k n)
  top : ∀ k, (Value.slice A n c).ownBlock = some k → k < hi
section
variable {lo hi lo' hi' : Nat} {w w' : World} {A : Option Addr} {c n : Nat} {l : List Int} {k : Int}
theorem OwnN.boxy (ho : OwnN w lo hi A c l) (h : Boxy w w') : OwnN w' lo hi A c l := ⟨own_boxy ho.row (by decide) h, ho.top⟩
theorem OwnN.of (ho : w.ownsRow lo 3 1 (.slice A l.length c) l.length (ints l)) (h : w.heap.size ≤ hi) : OwnN w lo hi A c l := ⟨ho, fun k hk => by have := (ho.lt k hk).2; omega⟩
end
def UInts (l : List Int) (w : World) (e : Ending) (w' : World) : Prop :=
  ∃ A c, e = .returned (.slice A l.length c) ∧ OwnN w' w.heap.size w'.heap.size A c l ∧ Below w.heap.size w w'
end Go.Proofs.Yteffbjddgdjkmaa
