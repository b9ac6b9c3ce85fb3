/- A law over drawn bytes: its argument opened; a text of too many bytes; 'at'. -/
import Derived.Test.YteffbjddgdjkmaaLift0
import Derived.Test.YteffbjddgdjkmaaRows2
import Derived.Test.YteffbjddgdjkmaaDraw1
namespace Go.Proofs.Yteffbjddgdjkmaa
open Go.ChangeShapes Go.WideShapes Go.ChangeAt Go.RowKit Go.Deep
set_option linter.unusedVariables false
set_option maxRecDepth 10000

def u8Cells (x : Int) : List Value := [.int .u8 x]
theorem u8_flat (l : List Int) : l.flatMap u8Cells = l.map (Value.int .u8) := by
  induction l with
  | nil => rfl
  | cons x l ih => rw [List.flatMap_cons, ih]; rfl
theorem cells_u8R : Try.prog.cellsOf 5 = 1 := by kernel_rfl
theorem u8_wf {F : Int} (h : (Lit.int .u8 F).wf = true) : 0 ≤ F ∧ F ≤ 255 := by
  simp [Lit.wf, IntKind.min, IntKind.max, IntKind.signed, IntKind.bits] at h
  omega
theorem open_code {H : Type} {enc : TypeId × Value → H} {W : World} {r : Reach} {b0 : Nat} {v : Value} {d : DataW H} {p : List MemPlace}
    (hv : Value.okWide Try.prog W r b0 22 v) (h : DataW.Trod enc Try.prog W 0 (fun _ => true) true 22 v d p) :
    ∃ (A : Option Addr) (c : Nat) (l : List Int), v = .slice A l.length c ∧ Reads W W.heap.size 1 A l.length (l.map (Value.int .u8)) ∧ l.length ≤ maxLen ∧ ∀ x ∈ l, 0 ≤ x ∧ x ≤ 255 := by
  obtain ⟨fuel, hf⟩ := h
  obtain ⟨A, n, c, l, hcs, hR, hl, hm, hq⟩ := reads_rows (α := Int) (f := u8Cells) (k := 1) (Q := fun x => 0 ≤ x ∧ x ≤ 255) (fun _ => rfl) (by omega) Try.underlying22 cells_u8R hf (fun n cs' y hcl ht => by
    match cs', hcl with
    | [c0], _ =>
      obtain ⟨F, e1, _, hwf⟩ := DataW.trod_int Try.underlying5 ht
      simp at e1
      subst e1
      exact ⟨F, rfl, u8_wf hwf⟩)
  subst hl
  rw [u8_flat] at hR
  refine ⟨A, c, l, ?_, hR, hm, hq⟩
  rcases okWide_slice Try.underlying22 hv with ⟨A', n', c', rfl⟩
  simpa [Value.cells] using hcs
set_option maxHeartbeats 400000 in
theorem l_big (A : Option Addr) (n c : Nat) (w : World) (h : n ≤ 9223372036854775807) : Calls Try.prog 10 #[.slice A n c] w fun e w' => e = .returned (.bool (decide (1048576 < n))) ∧ w = w' := by
  go_enter Try.func10, Try.ntmps10
  go_wp2
  go_ret
  exact ⟨ret_bool (by rw [decide_eq_decide]; omega), rfl⟩
/-- what 'at' reads -/
def atV (bs : List Int) (i : Nat) : Int := if bs.length = 0 then 0 else bs.getD ((i * 5 + 1) % bs.length) 0
theorem atV_bd {bs : List Int} (h : ∀ x ∈ bs, 0 ≤ x ∧ x ≤ 255) (i : Nat) : 0 ≤ atV bs i ∧ atV bs i ≤ 255 := by
  unfold atV
  split
  · omega
  · have hq : (i * 5 + 1) % bs.length < bs.length := Nat.mod_lt _ (by omega)
    rw [List.getD_eq_getElem?_getD, List.getElem?_eq_getElem hq]
    exact h _ (List.getElem_mem hq)
set_option maxHeartbeats 800000 in
theorem l_at (i : Nat) (B : Nat) (A : Option Addr) (c : Nat) (bs : List Int) (w : World) (hK : Code w B A bs) (hi : i ≤ 1000) :
    Calls Try.prog 14 #[.slice A bs.length c, .int .i64 i] w fun e w' => e = .returned (.int .i64 (atV bs i)) ∧ w = w' := by
  have hnb := hK.nb
  by_cases h0 : bs.length = 0
  · have hv : atV bs i = 0 := by unfold atV; rw [if_pos h0]
    rw [h0, hv]
    go_enter Try.func14, Try.ntmps14
    go_wp2
    go_ret
    exact ⟨rfl, rfl⟩
  · have hq : (i * 5 + 1) % bs.length < bs.length := Nat.mod_lt _ (by omega)
    obtain ⟨ad, rfl, hab, hcd, hb0, hb1⟩ := hK.at_ hq
    have hv : atV bs i = bs[(i * 5 + 1) % bs.length] := by unfold atV; rw [if_neg h0, List.getD_eq_getElem?_getD, List.getElem?_eq_getElem hq]; rfl
    rw [hv]
    generalize bs[(i * 5 + 1) % bs.length] = V at *
    obtain ⟨n, hn⟩ : ∃ n, bs.length = n := ⟨_, rfl⟩
    rw [hn] at hq hcd hnb h0 ⊢
    obtain ⟨Q, hQ⟩ : ∃ Q, (i * 5 + 1) % n = Q := ⟨_, rfl⟩
    rw [hQ] at hq hcd
    have hm : Int.tmod (((i : Int) * 5) + 1) (n : Int) = (Q : Int) := by
      rw [Int.tmod_eq_emod_of_nonneg (by omega), ← hQ]; push_cast; rfl
    have hnz : ¬ (n : Int) = 0 := by omega
    clear hn hv hQ
    go_enter Try.func14, Try.ntmps14
    go_wp2
    go_ret
    exact ⟨rfl, rfl⟩
end Go.Proofs.Yteffbjddgdjkmaa
