/- From a walk to a law's row: what every law's main proof shares; a card argument opened. -/
import Derived.Test.YteffbjddgdjkmaaLawKit
import Derived.Test.YteffbjddgdjkmaaLift0
import Derived.Deep.Slices
import Derived.SliceStrings
import Derived.Lib.SmallJoins
import Derived.HandedShaped
namespace Go.Proofs.Yteffbjddgdjkmaa
open Go.ChangeShapes Go.WideShapes Go.ChangeAt Go.RowKit
set_option linter.unusedVariables false
set_option maxRecDepth 10000

theorem cells_str : Try.prog.cellsOf 9 = 1 := by kernel_rfl
theorem cells_lcard : Try.prog.cellsOf 134 = 3 := by kernel_rfl

theorem reads_strings {H : Type} {enc : TypeId × Value → H} {W : World} {n : Nat} {cs : List Value} {x : DataW H × List MemPlace} (h : DataW.trod enc Try.prog W 0 (fun _ => true) true n 24 cs = some x) :
    ∃ (A : Option Addr) (len c : Nat) (ss : List ByteArray), cs = [.slice A len c] ∧ Reads W W.heap.size 1 A len (ss.map Value.string) ∧ len ≤ maxLen ∧ ∀ s ∈ ss, s.size ≤ maxLen := by
  rcases open_strings Try.underlying24 Try.underlying9 cells_str h with ⟨hcs, _⟩ | ⟨a, len, cap, ss, hcs, _, hl, hm, hz, hx, hcell, hws⟩
  · exact ⟨none, 0, 0, [], hcs, Reads.none_, by unfold maxLen; omega, fun s hs => by cases hs⟩
  · refine ⟨some a, len, cap, ss.take len, hcs, ⟨?_, fun h0 => ⟨a, rfl, ?_, ?_⟩⟩, by omega, fun s hs => hws s (List.mem_of_mem_take hs)⟩
    · simp at hz
      simp [List.length_take]; omega
    · have h1 := hcell 0 (by simp at hz; omega)
      have h2 := World.block_lt_of_cell? W _ h1
      rwa [block_of_add] at h2
    · intro j u hu
      rw [List.getElem?_map] at hu
      by_cases hj : j < len
      · have h1 := hcell j (by simp at hz; omega)
        rw [h1]
        rw [List.getElem?_take, if_pos hj] at hu
        have hjl : j < ss.length := by simp at hz; omega
        rw [List.getElem?_eq_getElem hjl] at hu
        simp [List.getD, List.getElem?_eq_getElem hjl] at hu ⊢
        exact hu
      · rw [List.getElem?_take, if_neg hj] at hu
        cases hu

theorem open_card {H : Type} {enc : TypeId × Value → H} {W : World} {r : Reach} {b0 : Nat} {v : Value} {d : DataW H} {p : List MemPlace}
    (hv : Value.okWide Try.prog W r b0 134 v) (h : DataW.Trod enc Try.prog W 0 (fun _ => true) true 134 v d p) :
    ∃ (dn fw : Int) (A : Option Addr) (n c : Nat) (ss : List ByteArray), v = .agg #[.int .i64 dn, .int .i64 fw, .slice A n c] ∧ Reads W W.heap.size 1 A n (ss.map Value.string) ∧ n ≤ maxLen ∧ (∀ s ∈ ss, s.size ≤ maxLen) ∧
      (Lit.int .i64 dn).wf = true ∧ (Lit.int .i64 fw).wf = true := by
  obtain ⟨v0, v1, v2, y0, y1, y2, n, rfl, _, _, h0, h1, h2⟩ := Joins.open_agg3 Try.underlying134 (by kernel_rfl) cells_lcard hv h
  obtain ⟨a, e0, _, wa⟩ := DataW.trod_int Try.underlying3 h0
  obtain ⟨b, e1, _, wb⟩ := DataW.trod_int Try.underlying3 h1
  obtain ⟨A, len, c, ss, e2, hR, hm, hs⟩ := reads_strings h2
  simp at e0 e1 e2
  subst e0; subst e1; subst e2
  exact ⟨a, b, A, len, c, ss, rfl, hR, hm, hs, wa, wb⟩
theorem strs_of_sz {W : World} {A : Option Addr} {n : Nat} {ss : List ByteArray} (hR : Reads W W.heap.size 1 A n (ss.map Value.string)) (hz : 0 ≤ szStrs ss 1048576) : Strs W W.heap.size A n ss ∧ n ≤ 1048576 := by
  have hl : ss.length = n := by have := hR.1; simpa using this
  unfold szStrs at hz
  split at hz
  · omega
  · exact ⟨⟨hR, by omega, fun s hs => by have := tot_mem hs; omega⟩, by omega⟩
end Go.Proofs.Yteffbjddgdjkmaa
