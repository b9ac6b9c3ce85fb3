/- Contracts of the program's and the reference's functions (Step1, Step2). -/
import Derived.Test.YtccjedongkokoaaRows
import Derived.Test.YtccjedongkokoaaQXb
import Derived.Test.YtccjedongkokoaaQXa
import Derived.Test.YtccjedongkokoaaQXd
namespace Go.Proofs.Ytccjedongkokoaa
open Go.ChangeShapes Go.WideShapes Go.ChangeAt Go.RowKit
set_option linter.unusedVariables false
set_option maxRecDepth 10000
def plainStep (K F L T I : Int) (b a : ByteArray) : Bool :=
  if K = 1 ∨ K = 2 then (I == 0) && (b.toList.isEmpty && a.toList.isEmpty) else if K = 3 then (F == 0) && ((L == 0) && (T == 0)) else false
end Go.Proofs.Ytccjedongkokoaa
namespace Go.Proofs.Ytccjedongkokoaa
open Go.ChangeShapes Go.WideShapes Go.ChangeAt Go.RowKit
set_option linter.unusedVariables false
set_option maxRecDepth 10000
def exchRes (d f : Int) (ss : List ByteArray) (k : Int) (b a : ByteArray) : List ByteArray × Bool :=
  if (cardOk d f ss && inB k 0 ((ss.length : Int) - 1)) && decide (ss.getD k.toNat ByteArray.empty = b) then putAt d f ss k a else (ss, false)
def stepRes (on : Bool) (d f : Int) (ss : List ByteArray) (K F L T I : Int) (b a : ByteArray) : List ByteArray × Bool :=
  if plainStep K F L T I b a = false then (ss, false) else if K = 1 then boxRes (if on then 100 else 102) d f ss F L T else if K = 2 then boxRes (if on then 102 else 100) d f ss F L T
  else if on then exchRes d f ss I b a else exchRes d f ss I a b
theorem boxRes_ok (c : UInt8) (d f : Int) (ss : List ByteArray) (F L T : Int) (m : Nat) (hl : ss.length ≤ m) (hs : ∀ x ∈ ss, x.size ≤ 16777216) : (boxRes c d f ss F L T).1.length ≤ m ∧ ∀ x ∈ (boxRes c d f ss F L T).1, x.size ≤ 16777216 := by
  unfold boxRes
  split
  · exact ⟨by show (flips _ _ _ _).length ≤ _; rw [flips_len]; omega, fun x hx => flips_size (c := c) hs (‹_ ∧ _›).2 x hx⟩
  · exact ⟨hl, hs⟩
end Go.Proofs.Ytccjedongkokoaa
