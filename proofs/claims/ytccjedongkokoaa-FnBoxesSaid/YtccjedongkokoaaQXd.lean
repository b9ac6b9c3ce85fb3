/- Contracts of the program's and the reference's functions (Box3, Box4). -/
import Derived.Deep.RegionHeld3
import Derived.Test.YtccjedongkokoaaRows
import Derived.Test.YtccjedongkokoaaQXc
namespace Go.Proofs.Ytccjedongkokoaa
open Go.ChangeShapes Go.WideShapes Go.ChangeAt Go.RowKit
set_option linter.unusedVariables false
set_option maxRecDepth 10000
theorem allC_mem {c : UInt8} {at_ : Int} {ss : List ByteArray} {F j i : Nat} (h : allC c at_ ss F j = true) (hi : i < ss.length) (h1 : F ≤ i) (h2 : i < F + j) : cornerB c ss[i] at_ = true := by
  unfold allC at h
  rw [List.all_eq_true] at h
  refine h _ ?_
  rw [List.mem_take_iff_getElem]
  exact ⟨i - F, by rw [List.length_drop]; omega, by simp [show F + (i - F) = i by omega]⟩
theorem flips_size {c : UInt8} {at_ : Int} {ss : List ByteArray} {F j : Nat} (hs : ∀ s ∈ ss, s.size ≤ 16777216) (h : allC c at_ ss F j = true) : ∀ x ∈ flips at_ ss F j, x.size ≤ 16777216 := by
  intro x hx
  obtain ⟨i, hi, rfl⟩ := List.mem_iff_getElem.1 hx
  have hi' : i < ss.length := by rw [flips_len] at hi; exact hi
  have he : (flips at_ ss F j)[i] = if F ≤ i ∧ i < F + j then swapB ss[i] at_ else ss[i] := by simp [flips]
  rw [he]
  split
  · rename_i hc
    rw [swapB_size (hs _ (List.getElem_mem hi')) (allC_mem h hi' hc.1 hc.2)]
    exact hs _ (List.getElem_mem hi')
  · exact hs _ (List.getElem_mem hi')
def canAdd (d f : Int) (ss : List ByteArray) (F L T : Int) : Bool := boxOk d f ss ss.length F L && allC 100 T ss F.toNat (L.toNat + 1 - F.toNat)
theorem canAdd_no {d f : Int} {ss : List ByteArray} {F L T : Int} (h : canAdd d f ss F L T = false) : boxRes 100 d f ss F L T = (ss, false) := by
  unfold boxRes; rw [if_neg]; intro hh; unfold canAdd at h; rw [hh.1, hh.2] at h; cases h
theorem canAdd_yes {d f : Int} {ss : List ByteArray} {F L T : Int} (h : canAdd d f ss F L T = true) : boxOk d f ss ss.length F L = true ∧ allC 100 T ss F.toNat (L.toNat + 1 - F.toNat) = true := by
  unfold canAdd at h; simpa using h
end Go.Proofs.Ytccjedongkokoaa
