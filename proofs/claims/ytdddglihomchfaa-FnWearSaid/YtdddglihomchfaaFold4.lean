/- The contracts of TileCount, CutLength of both packages. -/
import Derived.Test.YtdddglihomchfaaFold3
import Derived.Test.YtdddglihomchfaaFrame
import Derived.Deep.RegionHeld3
import Derived.Deep.QuietTactic
import Derived.BigQuiet
import Derived.Deep.DeepCutAuto
namespace Go.Proofs.Ytdddglihomchfaa
open Go.ChangeShapes Go.WideShapes Go.ChangeAt Go.RowKit
set_option linter.unusedVariables false
set_option linter.unusedSimpArgs false
set_option maxRecDepth 10000

def tilesOf (d f : Int) (ss : List ByteArray) : Int := if cardOk d f ss = true then (ss.length : Int) * (d + f) else -1
def sAt (ss : List ByteArray) (k : Nat) : ByteArray := ss.getD k ⟨#[]⟩
theorem sAt_get (ss : List ByteArray) (k : Nat) (h : k < ss.length) : sAt ss k = ss[k] := by unfold sAt; rw [List.getD_eq_getElem?_getD, List.getElem?_eq_getElem h]; rfl
def cutSum (ss : List ByteArray) : Nat → Nat
  | 0 => 0
  | 1 => 0
  | j + 2 => cutSum ss (j + 1) + cutL (sAt ss j) (sAt ss (j + 1))
theorem cutSum_step {ss : List ByteArray} {K j : Nat} (hj : j = K + 1) (h : j < ss.length) (hK : K < ss.length) : cutSum ss (j + 1) = cutSum ss j + cutL (ss[K]'hK) ss[j] := by
  subst hj
  show cutSum ss (K + 1) + cutL (sAt ss K) (sAt ss (K + 1)) = _
  rw [sAt_get ss K (by omega), sAt_get ss (K + 1) h]
theorem cutSum_le (ss : List ByteArray) (hs : ∀ x ∈ ss, x.size ≤ 16777216) : ∀ j, j ≤ ss.length → cutSum ss j ≤ j * 16777216
  | 0, _ => Nat.zero_le _
  | 1, _ => Nat.zero_le _
  | j + 2, h => by
    have h1 := cutSum_le ss hs (j + 1) (by omega)
    have h2 := cutL_le (sAt ss j) (sAt ss (j + 1))
    have h3 : (sAt ss j).size ≤ 16777216 := by rw [sAt_get ss j (by omega)]; exact hs _ (List.getElem_mem _)
    show cutSum ss (j + 1) + _ ≤ _
    omega
def cutLen (d f : Int) (ss : List ByteArray) : Int := if cardOk d f ss = true then (cutSum ss ss.length : Int) else -1
theorem cardOk_bd {d f : Int} {ss : List ByteArray} (h : cardOk d f ss = true) : 1 ≤ d ∧ d ≤ 8 ∧ 1 ≤ f ∧ f ≤ 8 ∧ 1 ≤ ss.length ∧ ss.length ≤ 10 := by
  unfold cardOk isStepsB at h
  simp only [Bool.and_eq_true] at h
  have h1 := inB_iff.1 h.1.1
  have h2 := inB_iff.1 h.1.2
  have h3 := inB_iff.1 h.2.1
  omega
end Go.Proofs.Ytdddglihomchfaa
