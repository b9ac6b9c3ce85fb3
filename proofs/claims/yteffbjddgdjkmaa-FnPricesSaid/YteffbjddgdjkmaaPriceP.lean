/- The plain law of prices. -/
import Derived.Test.YteffbjddgdjkmaaPrice1
import Derived.Test.YteffbjddgdjkmaaFlipOk
import Derived.Test.YteffbjddgdjkmaaFold7
namespace Go.Proofs.Yteffbjddgdjkmaa
open Go.ChangeShapes Go.WideShapes Go.ChangeAt Go.RowKit
set_option linter.unusedVariables false
set_option maxRecDepth 10000

theorem cardOk_strips {d f : Int} {ss : List ByteArray} (h : cardOk d f ss = true) : ∀ x ∈ ss, isStrip x.data.toList = true := by
  obtain ⟨h1, _, h3, _⟩ := cardOk_bd h
  unfold cardOk at h
  simp only [Bool.and_eq_true, List.all_eq_true] at h
  intro x hx
  have hs := h.2.2 x hx
  unfold stripOf downOf at hs
  by_cases hi : isStrip x.data.toList = true
  · exact hi
  · rw [if_neg hi] at hs
    simp at hs
    omega
theorem strip_size {s : ByteArray} (h : isStrip s.data.toList = true) : s.size ≤ 16 := by
  unfold isStrip inB at h
  simp at h
  have : s.data.toList.length = s.size := by simp
  simp at this
  omega
theorem foldsOf_strip {s : ByteArray} (h : isStrip s.data.toList = true) : 0 ≤ foldsOf s ∧ foldsOf s ≤ 18 := by
  have h1 := cornN_le s s.size
  have h2 := strip_size h
  unfold foldsOf
  rw [if_pos h]
  split <;> split <;> omega
theorem foldSum_strip {ss : List ByteArray} (h : ∀ x ∈ ss, isStrip x.data.toList = true) : ∀ j : Nat, j ≤ ss.length → 0 ≤ foldSum ss j ∧ foldSum ss j ≤ 18 * (j : Int)
  | 0, _ => by show 0 ≤ (0 : Int) ∧ (0 : Int) ≤ _; omega
  | j + 1, hj => by
    have ih := foldSum_strip h j (by omega)
    have hb := foldsOf_strip (h _ (List.getElem_mem (show j < ss.length by omega)))
    rw [foldSum_step (show j < ss.length by omega)]
    push_cast
    omega
theorem cutSum_strip {ss : List ByteArray} (h : ∀ x ∈ ss, x.size ≤ 16) : ∀ j, j ≤ ss.length → cutSum ss j ≤ j * 16
  | 0, _ => Nat.zero_le _
  | 1, _ => Nat.zero_le _
  | j + 2, hj => by
    have ih := cutSum_strip h (j + 1) (by omega)
    rw [cutSum_step (K := j) (j := j + 1) rfl (by omega) (by omega)]
    have h1 := cutL_le (ss[j]'(by omega)) (ss[j + 1]'(by omega))
    have h2 := h _ (List.getElem_mem (show j < ss.length by omega))
    omega
/-- the cost of a card at small rates is small -/
theorem cost_small {d f : Int} {ss : List ByteArray} {S C F P : Int} (hc : cardOk d f ss = true) (hr : ratesOk S C F P = true) (h1 : S ≤ 40) (h2 : C ≤ 40) (h3 : F ≤ 40) : 0 ≤ costOf d f ss S C F P ∧ costOf d f ss S C F P ≤ 100000 := by
  obtain ⟨q1, q2, q3, q4, q5, q6⟩ := cardOk_bd hc
  obtain ⟨r1, r2, r3, r4, r5, r6⟩ := ratesOk_bd hr
  have hst := cardOk_strips hc
  have hf := foldSum_strip hst ss.length (Nat.le_refl _)
  have hk := cutSum_strip (fun x hx => strip_size (hst x hx)) ss.length (Nat.le_refl _)
  rw [costOf_yes hc hr]
  have ht : tilesOf d f ss = (ss.length : Int) * (d + f) := by unfold tilesOf; rw [hc]; rfl
  have hl : cutLen d f ss = (cutSum ss ss.length : Int) := by unfold cutLen; rw [hc]; rfl
  have ht0 : 0 ≤ tilesOf d f ss := by rw [ht]; exact Int.mul_nonneg (by omega) (by omega)
  have ht1 := (tiles_bd hc).2
  have a1 := Int.mul_nonneg r1 ht0
  have a2 := Int.mul_nonneg r3 (show 0 ≤ cutLen d f ss by rw [hl]; omega)
  have a3 := Int.mul_nonneg r5 hf.1
  have b1 := Int.mul_le_mul h1 ht1 ht0 (by omega)
  have b2 := Int.mul_le_mul h2 (show cutLen d f ss ≤ 160 by rw [hl]; omega) (by rw [hl]; omega) (by omega)
  have b3 := Int.mul_le_mul h3 (show foldSum ss ss.length ≤ 180 by omega) hf.1 (by omega)
  omega
theorem cost_twice {d f : Int} {ss : List ByteArray} {S C F P : Int} (hc : cardOk d f ss = true) (hr : ratesOk S C F P = true) (hr2 : ratesOk (2 * S) (2 * C) (2 * F) (2 * P) = true) : costOf d f ss (2 * S) (2 * C) (2 * F) (2 * P) = 2 * costOf d f ss S C F P := by
  rw [costOf_yes hc hr, costOf_yes hc hr2, Int.mul_assoc, Int.mul_assoc, Int.mul_assoc]
  omega
theorem rates_small {S C F P : Int} (h : RatesIn S C F P) : ratesOk S C F P = true ∧ ratesOk (2 * S) (2 * C) (2 * F) (2 * P) = true := by
  obtain ⟨h1, h2, h3, h4, h5, h6, h7, h8⟩ := h
  unfold ratesOk inB
  constructor <;> (simp; omega)
def priceOf (n c m : Int) : Int := if 50 ≤ c then (n * (100 + m) * c + 99) / 100 - (n * (100 + m) * c + 99) / 100 / 10 else (n * (100 + m) * c + 99) / 100
theorem price_law {n c m : Int} (h0 : 0 ≤ n) (h1 : n ≤ 100000) (h2 : 1 ≤ c) (h3 : c ≤ 256) (h4 : 0 ≤ m) (h5 : m ≤ 255) : n ≤ priceOf n 1 m ∧ priceOf n 1 m ≤ priceOf n c m ∧ priceOf n c m ≤ c * priceOf n 1 m ∧ 0 ≤ priceOf n 1 m ∧ priceOf n 1 m ≤ 400000 ∧ 0 ≤ priceOf n c m ∧ priceOf n c m ≤ 100000000 := by
  obtain ⟨X, hX⟩ : ∃ X, n * (100 + m) = X := ⟨_, rfl⟩
  have hX0 : 100 * n ≤ X ∧ X ≤ 35500000 := by
    rw [← hX]
    have e : n * (100 + m) = 100 * n + n * m := by rw [Int.mul_add]; omega
    have hm := Int.mul_nonneg h0 h4
    have hm2 := Int.mul_le_mul h1 h5 h4 (by omega)
    omega
  obtain ⟨Q, hQ⟩ : ∃ Q, (X + 99) / 100 = Q := ⟨_, rfl⟩
  have hQ1 : n ≤ Q ∧ X ≤ 100 * Q ∧ 100 * Q ≤ X + 99 := by omega
  have e1 : priceOf n 1 m = Q := by
    unfold priceOf
    rw [if_neg (by omega), hX, Int.mul_one]
    exact hQ
  obtain ⟨Y, hY⟩ : ∃ Y, X * c = Y := ⟨_, rfl⟩
  have hX00 : 0 ≤ X := by omega
  have hY1 : X ≤ Y := by
    rw [← hY]
    have := Int.mul_le_mul_of_nonneg_left h2 hX00
    omega
  have hY2 : Y ≤ 100 * (Q * c) := by
    rw [← hY]
    have := Int.mul_le_mul_of_nonneg_right hQ1.2.1 (show 0 ≤ c by omega)
    rw [Int.mul_assoc] at this
    exact this
  have hY3 : Y ≤ 9088000000 := by
    rw [← hY]
    have := Int.mul_le_mul hX0.2 h3 (by omega) (by omega)
    omega
  have e2 : priceOf n c m = if 50 ≤ c then (Y + 99) / 100 - (Y + 99) / 100 / 10 else (Y + 99) / 100 := by
    unfold priceOf; rw [hX, hY]
  rw [e1, e2, Int.mul_comm c Q]
  have hqc : 0 ≤ Q * c := Int.mul_nonneg (by omega) (by omega)
  refine ⟨hQ1.1, ?_, ?_, by omega, by omega, ?_, ?_⟩
  · split
    · rename_i h50
      have h6 : 50 * X ≤ Y := by
        rw [← hY]
        have := Int.mul_le_mul_of_nonneg_left h50 hX00
        omega
      omega
    · omega
  · split <;> omega
  · split <;> omega
  · split <;> omega
theorem addbox_card {d f : Int} {ss : List ByteArray} {T : Int} (hc : cardOk d f ss = true) : cardOk d f (boxRes 100 d f ss 0 0 T).1 = true := by
  unfold boxRes
  split
  · rename_i h
    exact cardOk_flips hc h.2
  · exact hc
end Go.Proofs.Yteffbjddgdjkmaa
