/- What a box leaves is a card again (out of Undo1). -/
import Derived.Test.YteffbjddgdjkmaaBox1
import Derived.Test.YteffbjddgdjkmaaCard1
namespace Go.Proofs.Yteffbjddgdjkmaa
open Go.ChangeShapes Go.WideShapes Go.ChangeAt Go.RowKit
set_option linter.unusedVariables false
set_option maxRecDepth 10000

theorem strip_letter {l : List UInt8} (h : cnt 100 l + cnt 102 l = l.length) : ∀ x ∈ l, x = 100 ∨ x = 102 := by
  induction l with
  | nil => intro x hx; cases hx
  | cons a t ih =>
    have ht := cnt_two t
    have e1 : cnt 100 (a :: t) = cnt 100 t + (if a = 100 then 1 else 0) := by unfold cnt; rw [List.count_cons]; by_cases q : a = 100 <;> simp [q]
    have e2 : cnt 102 (a :: t) = cnt 102 t + (if a = 102 then 1 else 0) := by unfold cnt; rw [List.count_cons]; by_cases q : a = 102 <;> simp [q]
    rw [e1, e2, List.length_cons] at h
    have ha : a = 100 ∨ a = 102 := by
      by_cases q1 : a = 100
      · exact .inl q1
      · by_cases q2 : a = 102
        · exact .inr q2
        · rw [if_neg q1, if_neg q2] at h; omega
    have hne : ¬ ((100 : UInt8) = 102) := by decide
    intro x hx
    rcases List.mem_cons.1 hx with rfl | hx
    · exact ha
    · refine ih ?_ x hx
      rcases ha with rfl | rfl
      · rw [if_pos rfl, if_neg hne] at h; omega
      · rw [if_neg (Ne.symm hne), if_pos rfl] at h; omega
theorem cnt_swap (c : UInt8) (p q : List UInt8) (a b : UInt8) : cnt c (p ++ [b, a] ++ q) = cnt c (p ++ [a, b] ++ q) := by
  unfold cnt
  simp only [List.count_append, List.count_cons, List.count_nil]
  omega
theorem split_at {l : List UInt8} {K : Nat} (h : K + 1 < l.length) : l = l.take K ++ [l[K], l[K + 1]] ++ l.drop (K + 2) := by
  have h1 : l.drop K = l[K] :: l.drop (K + 1) := List.drop_eq_getElem_cons (by omega)
  have h2 : l.drop (K + 1) = l[K + 1] :: l.drop (K + 2) := List.drop_eq_getElem_cons (by omega)
  conv => lhs; rw [← List.take_append_drop K l, h1, h2]
  simp
theorem swapL_split (p q : List UInt8) (a b : UInt8) (K : Nat) (hp : p.length = K) : swapL (p ++ [a, b] ++ q) (K + 1) = p ++ [b, a] ++ q := by
  subst hp
  unfold swapL
  have h1 : List.drop (p.length + 1) p = [] := List.drop_eq_nil_of_le (by omega)
  have h2 : List.drop (p.length + 1 + 1) p = [] := List.drop_eq_nil_of_le (by omega)
  have h3 : p.length + 1 + 1 - p.length = 2 := by omega
  simp [List.drop_append, h1, h2, h3]
theorem swap_data {c : UInt8} {s : ByteArray} {k : Int} (h : cornerB c s k = true) : ∃ (p q : List UInt8) (a b : UInt8), s.data.toList = p ++ [a, b] ++ q ∧ k = ((p.length + 1 : Nat) : Int) ∧ (swapB s k).data.toList = p ++ [b, a] ++ q ∧ a = c ∧ b ≠ a := by
  obtain ⟨L, K, rfl, hKL, hL⟩ := cornerB_pos h
  subst hKL
  have hl : s.data.toList.length = s.size := by simp
  have hsp := split_at (l := s.data.toList) (K := K) (by omega)
  have hpl : (s.data.toList.take K).length = K := by rw [List.length_take]; omega
  refine ⟨s.data.toList.take K, s.data.toList.drop (K + 2), s.data.toList[K]'(by omega), s.data.toList[K + 1]'(by omega), hsp, by rw [hpl], ?_, ?_, ?_⟩
  · unfold swapB
    simp only [Int.toNat_natCast]
    have := swapL_split (s.data.toList.take K) (s.data.toList.drop (K + 2)) (s.data.toList[K]'(by omega)) (s.data.toList[K + 1]'(by omega)) K hpl
    rw [← hsp] at this
    exact this
  · unfold cornerB at h
    simp only [Bool.and_eq_true, beq_iff_eq] at h
    have h2 := h.2
    rw [show ((K + 1 : Nat) : Int) - 1 = (K : Int) by omega, chr_get s K (by omega)] at h2
    exact h2
  · unfold cornerB cornerAny at h
    simp only [Bool.and_eq_true] at h
    have h2 := h.1.2.2
    rw [show ((K + 1 : Nat) : Int) - 1 = (K : Int) by omega, chr_get s K (by omega), chr_get s (K + 1) (by omega)] at h2
    have h3 : s[K] ≠ s[K + 1] := by simpa using h2
    exact fun e => h3 e.symm
theorem strip_cnt {l : List UInt8} (h : isStrip l = true) : cnt 100 l + cnt 102 l = l.length := by
  unfold isStrip at h
  simp only [Bool.and_eq_true, beq_iff_eq] at h
  exact h.1
theorem isStrip_swap (p q : List UInt8) (a b : UInt8) : isStrip (p ++ [b, a] ++ q) = isStrip (p ++ [a, b] ++ q) := by
  unfold isStrip
  rw [cnt_swap 100, cnt_swap 102]
  simp
theorem stripOf_swap {c : UInt8} {s : ByteArray} {k : Int} (h : cornerB c s k = true) (d f : Int) : stripOf d f (swapB s k) = stripOf d f s := by
  obtain ⟨p, q, a, b, h1, _, h2, _⟩ := swap_data h
  unfold stripOf downOf forwardOf
  rw [h1, h2, isStrip_swap, cnt_swap 100, cnt_swap 102]
def otherC (c : UInt8) : UInt8 := if c = 100 then 102 else 100
theorem corner_back {c : UInt8} (hc : c = 100 ∨ c = 102) {s : ByteArray} {k : Int} (h : cornerB c s k = true) : cornerB (otherC c) (swapB s k) k = true := by
  obtain ⟨p, q, a, b, h1, hk, h2, ha, hb⟩ := swap_data h
  have hs : isStrip s.data.toList = true := by
    unfold cornerB at h
    simp only [Bool.and_eq_true] at h
    exact h.1.1
  have hl := strip_letter (strip_cnt hs)
  have hbl : b = 100 ∨ b = 102 := hl b (by rw [h1]; simp)
  have hbo : b = otherC c := by
    unfold otherC
    rcases hc with rfl | rfl
    · rw [if_pos rfl]
      rcases hbl with h3 | h3
      · exact absurd (h3.trans ha.symm) hb
      · exact h3
    · rw [if_neg (by decide)]
      rcases hbl with h3 | h3
      · exact h3
      · exact absurd (h3.trans ha.symm) hb
  have hsz : (swapB s k).size = p.length + (2 + q.length) := by
    have : (swapB s k).data.toList.length = (swapB s k).size := by simp
    rw [← this, h2]; simp; omega
  have hc1 : chr (swapB s k) (k - 1) = b := by
    unfold chr
    rw [h2, hk, show (((p.length + 1 : Nat) : Int) - 1).toNat = p.length by omega]
    simp
  have hc2 : chr (swapB s k) k = a := by
    unfold chr
    rw [h2, hk, Int.toNat_natCast]
    simp
  unfold cornerB cornerAny
  rw [h2, isStrip_swap, ← h1, hs, hc1, hc2, hsz]
  have hin : inB k 1 (((p.length + (2 + q.length) : Nat) : Int) - 1) = true := inB_iff'.2 ⟨by omega, by omega⟩
  rw [hin]
  have hb2 : ¬ otherC c = a := fun e => hb (hbo.trans e)
  simp [hbo, hb2]
theorem cardOk_flips {c : UInt8} {d f at_ : Int} {ss : List ByteArray} {F m : Nat} (h : cardOk d f ss = true) (ha : allC c at_ ss F m = true) : cardOk d f (flips at_ ss F m) = true := by
  unfold cardOk at *
  simp only [Bool.and_eq_true] at *
  rw [flips_len]
  refine ⟨h.1, h.2.1, ?_⟩
  rw [List.all_eq_true] at *
  intro x hx
  obtain ⟨i, hi, rfl⟩ := List.getElem_of_mem hx
  have hi2 : i < ss.length := by rw [flips_len] at hi; exact hi
  simp only [flips, List.getElem_mapIdx]
  split
  · rename_i hr
    have hcr : cornerB c ss[i] at_ = true := by
      unfold allC at ha
      rw [List.all_eq_true] at ha
      refine ha _ ?_
      rw [List.mem_take_iff_getElem]
      exact ⟨i - F, by rw [List.length_drop]; omega, by simp [show F + (i - F) = i by omega]⟩
    rw [stripOf_swap hcr]
    exact h.2.2 _ (List.getElem_mem hi2)
  · exact h.2.2 _ (List.getElem_mem hi2)
end Go.Proofs.Yteffbjddgdjkmaa
