/- The contracts of RatesOk of both packages. -/
import Derived.Test.YteffbjddgdjkmaaFold4
import Derived.Test.YteffbjddgdjkmaaFold2
import Derived.Deep.RegionHeld3
import Derived.Deep.QuietTactic
import Derived.BigQuiet
import Derived.Deep.DeepCutAuto
namespace Go.Proofs.Yteffbjddgdjkmaa
open Go.ChangeShapes Go.WideShapes Go.ChangeAt Go.RowKit
set_option linter.unusedVariables false
set_option linter.unusedSimpArgs false
set_option maxRecDepth 10000

def ratesOk (S C F P : Int) : Bool := inB S 0 10000 && (inB C 0 10000 && (inB F 0 10000 && inB P 0 10000))
def rAt (S C F P : Int) : Nat → Int
  | 0 => S
  | 1 => C
  | 2 => F
  | _ => P
theorem ratesOk_no {S C F P : Int} {j : Nat} (hj : j < 4) (h : inB (rAt S C F P j) 0 10000 = false) : ratesOk S C F P = false := by
  unfold ratesOk
  rcases (by omega : j = 0 ∨ j = 1 ∨ j = 2 ∨ j = 3) with rfl | rfl | rfl | rfl
  · have h : inB S 0 10000 = false := h
    rw [h]; rfl
  · have h : inB C 0 10000 = false := h
    rw [h]; simp
  · have h : inB F 0 10000 = false := h
    rw [h]; simp
  · have h : inB P 0 10000 = false := h
    rw [h]; simp
theorem ratesOk_yes {S C F P : Int} (h : ∀ j, j < 4 → inB (rAt S C F P j) 0 10000 = true) : ratesOk S C F P = true := by
  unfold ratesOk
  have h0 : inB S 0 10000 = true := h 0 (by omega)
  have h1 : inB C 0 10000 = true := h 1 (by omega)
  have h2 : inB F 0 10000 = true := h 2 (by omega)
  have h3 : inB P 0 10000 = true := h 3 (by omega)
  rw [h0, h1, h2, h3]; rfl
theorem ratesOk_bd {S C F P : Int} (h : ratesOk S C F P = true) : 0 ≤ S ∧ S ≤ 10000 ∧ 0 ≤ C ∧ C ≤ 10000 ∧ 0 ≤ F ∧ F ≤ 10000 := by
  unfold ratesOk at h
  simp only [Bool.and_eq_true] at h
  have h1 := inB_iff.1 h.1
  have h2 := inB_iff.1 h.2.1
  have h3 := inB_iff.1 h.2.2.1
  omega
set_option maxHeartbeats 1600000 in
theorem i_RatesOk (S C F P : Int) (w : World) :
    Calls Try.prog 24 #[.agg #[.int .i64 S, .int .i64 C, .int .i64 F, .int .i64 P]] w fun e w' => e = .returned (.bool (ratesOk S C F P)) ∧ Below w.heap.size w w' := by
  go_enter Try.func24, Try.ntmps24
  go_wp2
  go_loopw [15] (fun i wr => ∃ j : Nat, j ≤ 4 ∧ i = .int .i64 j ∧ Hid (∀ q, q < j → inB (rAt S C F P q) 0 10000 = true) ∧ wr.heap[w.heap.size + 1]? = some (.cells #[.int .i64 S, .int .i64 C, .int .i64 F, .int .i64 P] 3 (0, 0)) ∧ Below w.heap.size w wr) (fun i _ => 4 - (intOf i).toNat)
  case atStart => exact ⟨0, by omega, rfl, fun q hq => absurd hq (by omega), blk_new_at _ _ (by simp), bel⟩
  case round =>
    obtain ⟨j, hj, rfl, HQ, hk, hb⟩ := hrel
    obtain ⟨hx0, hx1, hx2, hx3, hxl⟩ := blk4 hk
    by_cases hlt : j < 4
    · cases hc : inB (rAt S C F P j) 0 10000
      · have HR := Lib.hid (ratesOk_no hlt hc)
        rcases (by omega : j = 0 ∨ j = 1 ∨ j = 2 ∨ j = 3) with rfl | rfl | rfl | rfl
        all_goals (
          simp only [rAt] at hc
          go_wp2_with (go_at_call 81; refine (i_within _ _ _ _).mono ?_; rintro e w' ⟨rfl, rfl⟩)
          go_ret
          exact ⟨ret_bool HR.out.symm, hb⟩)
      · have HQ2 : Hid (∀ q, q < j + 1 → inB (rAt S C F P q) 0 10000 = true) := fun q hq => by
          by_cases h : q = j
          · subst h; exact hc
          · exact HQ.out q (by omega)
        rcases (by omega : j = 0 ∨ j = 1 ∨ j = 2 ∨ j = 3) with rfl | rfl | rfl | rfl
        all_goals (
          simp only [rAt] at hc
          go_wp2_with (go_at_call 81; refine (i_within _ _ _ _).mono ?_; rintro e w' ⟨rfl, rfl⟩)
          go_roundw
          case rel => exact ⟨_, by omega, by first | rfl | go_num, HQ2.out, hk, hb⟩
          case measure => simp [intOf])
    · have hje : j = 4 := by omega
      subst hje
      have HR := Lib.hid (ratesOk_yes HQ.out)
      go_wp2
      go_ret
      exact ⟨ret_bool HR.out.symm, hb⟩
set_option maxHeartbeats 1600000 in
theorem s_RatesOk (S C F P : Int) (w : World) :
    Calls Try.prog 92 #[.agg #[.int .i64 S, .int .i64 C, .int .i64 F, .int .i64 P]] w fun e w' => e = .returned (.bool (ratesOk S C F P)) ∧ Below w.heap.size w w' := by
  cases h1 : inB S 0 10000
  · have HR : Hid (ratesOk S C F P = false) := by unfold Hid ratesOk; rw [h1]; rfl
    go_enter Try.func92, Try.ntmps92
    go_wp2_with (go_at_call 93; refine (s_l01In _ _ _ _).mono ?_; rintro e w' ⟨rfl, rfl⟩)
    go_ret
    exact ⟨ret_bool HR.out.symm, bel⟩
  · cases h2 : inB C 0 10000
    · have HR : Hid (ratesOk S C F P = false) := by unfold Hid ratesOk; rw [h1, h2]; rfl
      go_enter Try.func92, Try.ntmps92
      go_wp2_with (go_at_call 93; refine (s_l01In _ _ _ _).mono ?_; rintro e w' ⟨rfl, rfl⟩)
      go_ret
      exact ⟨ret_bool HR.out.symm, bel⟩
    · cases h3 : inB F 0 10000
      · have HR : Hid (ratesOk S C F P = false) := by unfold Hid ratesOk; rw [h1, h2, h3]; rfl
        go_enter Try.func92, Try.ntmps92
        go_wp2_with (go_at_call 93; refine (s_l01In _ _ _ _).mono ?_; rintro e w' ⟨rfl, rfl⟩)
        go_ret
        exact ⟨ret_bool HR.out.symm, bel⟩
      · have HR : Hid (ratesOk S C F P = inB P 0 10000) := by unfold Hid ratesOk; rw [h1, h2, h3]; rfl
        go_enter Try.func92, Try.ntmps92
        go_wp2_with (go_at_call 93; refine (s_l01In _ _ _ _).mono ?_; rintro e w' ⟨rfl, rfl⟩)
        go_ret
        exact ⟨ret_bool HR.out.symm, bel⟩
end Go.Proofs.Yteffbjddgdjkmaa
