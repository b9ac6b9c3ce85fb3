/- The plain law of copies that are opened. -/
import Derived.Test.YtdddglihomchfaaDraw5
import Derived.Test.YtdddglihomchfaaWear4
namespace Go.Proofs.Ytdddglihomchfaa
open Go.ChangeShapes Go.WideShapes Go.ChangeAt Go.RowKit
set_option linter.unusedVariables false
set_option maxRecDepth 10000

theorem drew_stripOf {d f : Nat} {s : ByteArray} (h : Drew d f s) (h1 : 1 ≤ d) (h2 : d ≤ 8) (h3 : 1 ≤ f) (h4 : f ≤ 8) : stripOf d f s = true := by
  have hs := drew_strip h h1 h2 h3 h4
  obtain ⟨k1, k2, k3⟩ := h
  unfold stripOf downOf forwardOf
  rw [hs, k1, k2]
  simp
theorem drew_cardOk {d f : Nat} {ss : List ByteArray} (hb : 1 ≤ d ∧ d ≤ 4 ∧ 1 ≤ f ∧ f ≤ 4 ∧ 1 ≤ ss.length ∧ ss.length ≤ 6) (h : ∀ x ∈ ss, Drew d f x) : cardOk d f ss = true := by
  have hall : ss.all (stripOf d f) = true := List.all_eq_true.2 fun x hx => drew_stripOf (h x hx) hb.1 (by omega) hb.2.2.1 (by omega)
  unfold cardOk
  rw [hall]
  simp [isStepsB, inB]
  omega
theorem drew_size {d f : Nat} {ss : List ByteArray} (hb : 1 ≤ d ∧ d ≤ 4 ∧ 1 ≤ f ∧ f ≤ 4 ∧ 1 ≤ ss.length ∧ ss.length ≤ 6) (h : ∀ x ∈ ss, Drew d f x) : ∀ x ∈ ss, x.size ≤ 16777216 := fun x hx => by
  have := (h x hx).2.2; omega
theorem drawn_copyOk {d f : Nat} {ss : List ByteArray} {K X H O : Int} (hb : 1 ≤ d ∧ d ≤ 4 ∧ 1 ≤ f ∧ f ≤ 4 ∧ 1 ≤ ss.length ∧ ss.length ≤ 6) (h : ∀ x ∈ ss, Drew d f x) (hP : PaperIn K X H) (hO : 0 ≤ O ∧ O ≤ 1000000) : copyOk d f ss K X H O = true := by
  obtain ⟨p1, p2, p3, p4, p5, p6⟩ := hP
  unfold copyOk paperOk
  rw [drew_cardOk hb h]
  simp [inB]
  omega
theorem mostF_le_all {ss : List ByteArray} : ∀ {j : Nat}, j ≤ ss.length → ∀ k, k < j → foldsOf (sAt ss k) ≤ mostF ss j
  | 0, _, k, hk => by omega
  | j + 1, hj, k, hk => by
    have ih := fun h => mostF_le_all (ss := ss) (j := j) (by omega) k h
    have hjl : j < ss.length := by omega
    by_cases hgt : mostF ss j < foldsOf ss[j]
    · rw [mostF_gt hjl hgt]
      by_cases hkj : k < j
      · have := ih hkj; omega
      · have : k = j := by omega
        subst this
        rw [sAt_get ss k hjl]; omega
    · rw [mostF_le hjl hgt]
      by_cases hkj : k < j
      · exact ih hkj
      · have : k = j := by omega
        subst this
        rw [sAt_get ss k hjl]; omega
/-- what FnWear says of a valid copy -/
theorem wear_life {d f : Int} {ss : List ByteArray} {K X H O : Int} (hc : copyOk d f ss K X H O = true) :
    0 ≤ lifeOf d f ss K X H O ∧ lifeOf d f ss K X H O ≤ 40000 ∧ lifeOf d f ss K X H O * max 1 (mostF ss ss.length) ≤ foldsAl K X H ∧ foldsAl K X H < (lifeOf d f ss K X H O + 1) * max 1 (mostF ss ss.length) := by
  have h1 := life_bd K X H (mostF ss ss.length)
  have h2 := foldsAl_bd K X H
  rw [lifeOf_yes hc, Int.max_comm 1]
  refine ⟨h1.1, h1.2, ?_, ?_⟩
  · rw [Int.tdiv_eq_ediv_of_nonneg h2.1]
    exact Int.ediv_mul_le _ (by omega)
  · rw [Int.tdiv_eq_ediv_of_nonneg h2.1]
    exact Int.lt_ediv_add_one_mul_self _ (by omega)
theorem lifeOf_O {d f : Int} {ss : List ByteArray} {K X H O O' : Int} (hc : copyOk d f ss K X H O = true) (hc' : copyOk d f ss K X H O' = true) : lifeOf d f ss K X H O' = lifeOf d f ss K X H O := by
  rw [lifeOf_yes hc, lifeOf_yes hc']
end Go.Proofs.Ytdddglihomchfaa
