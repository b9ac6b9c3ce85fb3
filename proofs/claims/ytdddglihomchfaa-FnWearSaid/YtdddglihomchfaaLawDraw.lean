/- A law over drawn bytes: its argument opened; a text of too many bytes; 'at'. -/
import Derived.Test.YtdddglihomchfaaLift0
import Derived.Test.YtdddglihomchfaaRows2
import Derived.Test.YtdddglihomchfaaDraw1
namespace Go.Proofs.Ytdddglihomchfaa
open Go.ChangeShapes Go.WideShapes Go.ChangeAt Go.RowKit Go.Deep
set_option linter.unusedVariables false
set_option maxRecDepth 10000

def u8Cells (x : Int) : List Value := [.int .u8 x]
theorem u8_flat (l : List Int) : l.flatMap u8Cells = l.map (Value.int .u8) := by
  induction l with
  | nil => rfl
  | cons x l ih => rw [List.flatMap_cons, ih]; rfl
theorem cells_u8R : Try.prog.cellsOf 5 = 1 := by kernel_rfl
theorem u8_wf {F : Int} (h : (Lit.int .u8 F).wf = true) : 0 ≤ F ∧ F ≤ 255 := by
  simp [Lit.wf, IntKind.min, IntKind.max, IntKind.signed, IntKind.bits] at h
  omega
theorem open_code {H : Type} {enc : TypeId × Value → H} {W : World} {r : Reach} {b0 : Nat} {v : Value} {d : DataW H} {p : List MemPlace}
    (hv : Value.okWide Try.prog W r b0 51 v) (h : DataW.Trod enc Try.prog W 0 (fun _ => true) true 51 v d p) :
    ∃ (A : Option Addr) (c : Nat) (l : List Int), v = .slice A l.length c ∧ Reads W W.heap.size 1 A l.length (l.map (Value.int .u8)) ∧ l.length ≤ maxLen ∧ ∀ x ∈ l, 0 ≤ x ∧ x ≤ 255 := by
  obtain ⟨fuel, hf⟩ := h
  obtain ⟨A, n, c, l, hcs, hR, hl, hm, hq⟩ := reads_rows (α := Int) (f := u8Cells) (k := 1) (Q := fun x => 0 ≤ x ∧ x ≤ 255) (fun _ => rfl) (by omega) Try.underlying51 cells_u8R hf (fun n cs' y hcl ht => by
    match cs', hcl with
    | [c0], _ =>
      obtain ⟨F, e1, _, hwf⟩ := DataW.trod_int Try.underlying5 ht
      simp at e1
      subst e1
      exact ⟨F, rfl, u8_wf hwf⟩)
  subst hl
  rw [u8_flat] at hR
  refine ⟨A, c, l, ?_, hR, hm, hq⟩
  rcases okWide_slice Try.underlying51 hv with ⟨A', n', c', rfl⟩
  simpa [Value.cells] using hcs
set_option maxHeartbeats 400000 in
theorem l_big (A : Option Addr) (n c : Nat) (w : World) (h : n ≤ 9223372036854775807) : Calls Try.prog 22 #[.slice A n c] w fun e w' => e = .returned (.bool (decide (1048576 < n))) ∧ w = w' := by
  go_enter Try.func22, Try.ntmps22
  go_wp2
  go_ret
  exact ⟨ret_bool (by rw [decide_eq_decide]; omega), rfl⟩
end Go.Proofs.Ytdddglihomchfaa
