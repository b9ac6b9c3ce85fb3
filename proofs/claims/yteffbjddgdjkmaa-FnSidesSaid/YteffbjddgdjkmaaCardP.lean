/- Plain: a valid card's bounds; cards that are the same. -/
import Derived.Test.YteffbjddgdjkmaaFlipOk
import Derived.Test.YteffbjddgdjkmaaSame1
import Derived.Test.YteffbjddgdjkmaaDraw2
namespace Go.Proofs.Yteffbjddgdjkmaa
set_option linter.unusedVariables false
set_option maxRecDepth 10000

theorem sameCard_iff {d f d2 f2 : Int} {ss ts : List ByteArray} : sameCard d f d2 f2 ss ts = true ↔ d = d2 ∧ f = f2 ∧ ss = ts := by
  unfold sameCard eqSS
  simp
theorem drew_cardOk {d f : Nat} {ss : List ByteArray} (hb : 1 ≤ d ∧ d ≤ 4 ∧ 1 ≤ f ∧ f ≤ 4 ∧ 1 ≤ ss.length ∧ ss.length ≤ 6) (h : ∀ x ∈ ss, Drew d f x) : cardOk d f ss = true := by
  have hall : ss.all (stripOf d f) = true := List.all_eq_true.2 fun x hx => by
    have hD := h x hx
    have hst := drew_strip hD hb.1 (by omega) hb.2.2.1 (by omega)
    obtain ⟨k1, k2, k3⟩ := hD
    unfold stripOf downOf forwardOf
    rw [hst, k1, k2]
    simp
  unfold cardOk
  rw [hall]
  simp [isStepsB, inB]
  omega
theorem sc_size {s : ByteArray} (h : isStrip s.data.toList = true) : s.size ≤ 16 := by
  unfold isStrip inB at h
  simp at h
  have : s.data.toList.length = s.size := by simp
  simp at this
  omega
theorem card_bounds {d f : Int} {ss : List ByteArray} (h : cardOk d f ss = true) : (1 ≤ d ∧ d ≤ 8 ∧ 1 ≤ f ∧ f ≤ 8) ∧ (1 ≤ ss.length ∧ ss.length ≤ 10) ∧ ∀ s ∈ ss, s.size ≤ 16 := by
  unfold cardOk at h
  simp only [Bool.and_eq_true, List.all_eq_true] at h
  obtain ⟨⟨h1, h2⟩, h3, h4⟩ := h
  have e1 := inB_iff'.1 h1
  have e2 := inB_iff'.1 h2
  have e3 := inB_iff'.1 h3
  refine ⟨⟨by omega, by omega, by omega, by omega⟩, ⟨by omega, by omega⟩, fun s hs => ?_⟩
  have hs2 := h4 s hs
  unfold stripOf downOf at hs2
  by_cases hi : isStrip s.data.toList = true
  · exact sc_size hi
  · rw [if_neg hi] at hs2
    simp at hs2
    omega
end Go.Proofs.Yteffbjddgdjkmaa
