/- An argument of a law that is a slice of structs: it reads as a list. -/
import Derived.Test.YteffbjddgdjkmaaRows1
import Derived.Test.YteffbjddgdjkmaaLift0
import Derived.Deep.Slices
namespace Go.Proofs.Yteffbjddgdjkmaa
open Go.ChangeShapes Go.WideShapes Go.ChangeAt Go.RowKit Go.Deep
set_option linter.unusedVariables false
set_option maxRecDepth 10000

theorem reads_rows {α : Type} {f : α → List Value} {k : Nat} (hf : ∀ x, (f x).length = k) (hk : 0 < k) {Q : α → Prop} {H : Type} {enc : TypeId × Value → H} {P : Program} {W : World} {t e : TypeId} {fuel : Nat} {cs : List Value} {x : DataW H × List MemPlace}
    (ht : P.underlying t = some (.slice e)) (hC : P.cellsOf e = k) (h : DataW.trod enc P W 0 (fun _ => true) true fuel t cs = some x)
    (hel : ∀ n cs' y, cs'.length = k → DataW.trod enc P W 0 (fun _ => true) true n e cs' = some y → ∃ b : α, cs' = f b ∧ Q b) :
    ∃ (A : Option Addr) (n c : Nat) (l : List α), cs = [.slice A n c] ∧ Reads W W.heap.size k A n (l.flatMap f) ∧ l.length = n ∧ n ≤ maxLen ∧ ∀ b ∈ l, Q b := by
  rcases open_slice ht h with ⟨hcs, _⟩ | ⟨a, len, cap, m, n, D, Pl, hcs, _, hl, hm, hmm, _, hi⟩
  · exact ⟨none, 0, 0, [], hcs, ⟨by simp, fun h0 => absurd h0 (by omega)⟩, rfl, by unfold maxLen; omega, fun b hb => by cases hb⟩
  · have hlm : len ≤ m := by rw [hmm]; simp; exact hl
    have hb : ∀ i, i < len → ∃ b : α, (∀ j, j < k → W.cell? (a.add (i * k + j)) = (f b)[j]?) ∧ Q b := by
      intro i hil
      obtain ⟨cs', hc, htr⟩ := hi i (by omega)
      rw [hC] at hc
      obtain ⟨_, hcl, hat⟩ := World.cells?_some hc
      obtain ⟨b, rfl, hq⟩ := hel _ _ _ hcl htr
      exact ⟨b, fun j hj => by rw [← add_of_add]; exact hat j hj, hq⟩
    have hlist : ∀ p, p ≤ len → ∃ l : List α, l.length = p ∧ (∀ i (hi : i < l.length), (∀ j, j < k → W.cell? (a.add (i * k + j)) = (f l[i])[j]?) ∧ Q l[i]) := by
      intro p
      induction p with
      | zero => intro _; exact ⟨[], rfl, fun i hi => by simp at hi⟩
      | succ p ih =>
        intro hp
        obtain ⟨l, hll, hlc⟩ := ih (by omega)
        obtain ⟨b, hbc, hq⟩ := hb p (by omega)
        refine ⟨l ++ [b], by simp [hll], fun i hi => ?_⟩
        by_cases hip : i < l.length
        · rw [List.getElem_append_left hip]; exact hlc i hip
        · have he : i = l.length := by simp at hi; omega
          subst he
          rw [List.getElem_append_right (Nat.le_refl _)]
          simp only [Nat.sub_self, List.getElem_cons_zero]
          rw [hll]; exact ⟨hbc, hq⟩
    obtain ⟨l, hll, hlc⟩ := hlist len (Nat.le_refl _)
    refine ⟨some a, len, cap, l, hcs, ⟨by rw [flat_len hf, hll], fun h0 => ⟨a, rfl, ?_, ?_⟩⟩, hll, by omega, fun b hb => ?_⟩
    · have h1 := (hlc 0 (by omega)).1 0 hk
      have hs : ((f (l[0]'(by omega)))[0]?) = some ((f (l[0]'(by omega)))[0]'(by rw [hf]; exact hk)) := List.getElem?_eq_getElem _
      rw [hs] at h1
      have h2 := World.block_lt_of_cell? W _ h1
      rwa [block_of_add] at h2
    · intro j u hu
      have hj : j < len * k := by
        have h1 := (List.getElem?_eq_some_iff.1 hu).1
        rw [flat_len hf, hll] at h1; exact h1
      have hi1 : j / k < l.length := by rw [hll]; exact Nat.div_lt_of_lt_mul (by rw [Nat.mul_comm]; exact hj)
      have hr : j % k < k := Nat.mod_lt _ hk
      have hjd : j = j / k * k + j % k := by rw [Nat.mul_comm]; exact (Nat.div_add_mod j k).symm
      rw [hjd] at hu ⊢
      rw [flat_get hf l _ _ hi1 hr] at hu
      rw [(hlc _ hi1).1 _ hr, hu]
    · obtain ⟨i, hi, rfl⟩ := List.mem_iff_getElem.1 hb
      exact (hlc i hi).2
end Go.Proofs.Yteffbjddgdjkmaa
