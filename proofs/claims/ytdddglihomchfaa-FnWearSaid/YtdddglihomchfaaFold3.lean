/- The cuts between two strips: the contracts of CutsBetween of both packages. -/
import Derived.Test.YtdddglihomchfaaFold1
import Derived.Test.YtdddglihomchfaaMix1
import Derived.Deep.QuietTactic
import Derived.BigQuiet
import Derived.Deep.DeepCutAuto
namespace Go.Proofs.Ytdddglihomchfaa
open Go.ChangeShapes Go.WideShapes Go.ChangeAt Go.RowKit
set_option linter.unusedVariables false
set_option linter.unusedSimpArgs false
set_option maxRecDepth 10000

def same1 (s t : ByteArray) (k : Nat) : Bool := (chr s (k : Int) == chr t (k : Int)) && (cnt 102 (s.data.toList.take k) == cnt 102 (t.data.toList.take k))
def cutN (s t : ByteArray) : Nat → Nat
  | 0 => 0
  | j + 1 => cutN s t j + if same1 s t j = true then 0 else 1
theorem cutN_same {s t : ByteArray} {j : Nat} (h : same1 s t j = true) : cutN s t (j + 1) = cutN s t j := by show cutN s t j + _ = _; rw [if_pos h]; rfl
theorem cutN_diff {s t : ByteArray} {j : Nat} (h : same1 s t j = false) : cutN s t (j + 1) = cutN s t j + 1 := by show cutN s t j + _ = _; rw [h]; rfl
theorem cutN_le (s t : ByteArray) : ∀ j, cutN s t j ≤ j
  | 0 => Nat.le_refl _
  | j + 1 => by have := cutN_le s t j; show cutN s t j + _ ≤ _; split <;> omega
def cutL (s t : ByteArray) : Nat := if sameFrame s.data.toList t.data.toList = true then cutN s t s.size else 0
theorem cutL_le (s t : ByteArray) : cutL s t ≤ s.size := by
  unfold cutL
  split
  · exact cutN_le s t _
  · exact Nat.zero_le _
theorem same1_get {s t : ByteArray} {k : Nat} (h1 : k < s.size) (h2 : k < t.size) : same1 s t k = ((s[k] == t[k]) && (cnt 102 (s.data.toList.take k) == cnt 102 (t.data.toList.take k))) := by
  unfold same1; rw [chr_get s k h1, chr_get t k h2]
end Go.Proofs.Ytdddglihomchfaa
