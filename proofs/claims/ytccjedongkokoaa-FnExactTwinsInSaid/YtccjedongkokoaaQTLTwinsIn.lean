/- FnExactTwinsIn: the program's TwinsIn returns what the reference's returns, for all arguments; no condition. -/
import Derived.Deep.DeepCutAuto
import Derived.Deep.RegionHeld3
import Derived.Deep.Slices
import Derived.Lib.SmallJoins
import Derived.SliceStrings
import Derived.Test.YtccjedongkokoaaRows
import Derived.Test.YtccjedongkokoaaQTWTwinsIn
import Derived.Test.YtccjedongkokoaaQTb

namespace Go.Proofs.Ytccjedongkokoaa.fnExactTwinsIn
open Go.ChangeShapes Go.WideShapes Go.ChangeAt Go.RowKit Go.Joins Go.WideMaps Go.WideElems
open Go.ChangeMaps (open_string shut_string)
set_option linter.unusedVariables false

set_option maxRecDepth 100000 in
set_option maxHeartbeats 1600000 in
theorem bigTwinsIn_1 (Am : Option Addr) (cm : Nat) (Lm : List RItem) (w : World) (hRm : RawItems w w.heap.size Am Lm) (hz : szItems (plI Lm) (1048576) < 0) :
    Calls Try.prog 6 #[.slice Am Lm.length cm] w fun e w' => e = .returned (.bool true) ∧ Below w.heap.size w w' := by
  go_enter Try.func6, Try.ntmps6
  go_wp2_with fail
  refine (l_szItemS w.heap.size Am cm Lm (1048576) _ (hRm.below (by first | exact Below.refl _ _ | exact bel)) (Nat.le_refl _) (by omega) (by omega)).mono ?_
  rintro e w1 ⟨rfl, hb_w1⟩
  have hbelow_1 : Below w.heap.size w w1 := bel
  go_wp2
  go_ret
  exact ⟨rfl, bel⟩

set_option maxRecDepth 100000 in
theorem lifted (os : Os) (started : os.Started) (H : Type) (enc : TypeId × Value → H) :
    ReturnsInHanded {} Try.checked os 6 .any (Rows.fnExactTwinsInSpec.pre6 enc Try.prog Try.f6 Rows.fnExactTwinsInRow.domain false) (Rows.fnExactTwinsInSpec.post enc Try.prog Try.f6 false true false false) := by
  refine returnsInHanded_of_change_shaped (C := Try.checked) own0 started (by kernel_rfl) Try.func6
    (ChangeSpec.witness6 (enc := enc) (C := Try.checked) false ⟨#[], #[.slice none 0 0], []⟩ 8 (by kernel_rfl) (by kernel_rfl) (by kernel_rfl) (by kernel_rfl)) ?_
  intro W base args ds gs before hval0 hW hcnd _ hsh _
  have hval : ∀ (j : Nat) t v, Try.f6.params[j]? = some t → args[j]? = some v → Value.okWide Try.prog W .any base t v := hval0
  have hW' := hW
  obtain ⟨p, q, hA0, hV, _, hfz, hnd⟩ := hW
  have hA : DataW.TrodAll enc Try.prog W 0 (fun _ => true) true Try.f6.params.toList args.toList ds p := hA0
  rw [Try.params6] at hA hval
  obtain ⟨v0, vs0, d0, ds0, p0, q0, hargs, hds, _, h0, r0⟩ := trodAll_cons hA
  obtain ⟨rfl, rfl, _⟩ := trodAll_nil r0
  obtain rfl : args = #[v0] := by cases args; simp_all
  have fin : Calls Try.prog 6 #[v0] W fun e w' => e = .returned (.bool true) ∧ Below W.heap.size W w' := by
    obtain ⟨Am, cm, Lm, rfl, hRm⟩ := open_items (hval 0 67 v0 rfl rfl) h0
    by_cases hz1 : szItems (plI Lm) (1048576) < 0
    case pos => exact bigTwinsIn_1 Am cm Lm W hRm  hz1
    have hz1' : 0 ≤ szItems (plI Lm) (1048576) := by omega
    have hub1 : szItems (plI Lm) (1048576) ≤ 1048576 := szItems_ub _ _ (by omega)
    obtain ⟨hSm, hnm⟩ := items_of_sz hRm (by omega) hz1'
    exact walkTwinsIn Am cm Lm W hSm hnm hz1'
  refine fin.mono fun e W' ⟨he, hb⟩ => ?_
  subst he
  exact ⟨_, rfl, post_law hW' rfl (by rw [Try.params6]; intro t ht; simp at ht; first | (rcases ht with rfl | rfl | rfl | rfl <;> exact ⟨by kernel_rfl, of_decide_eq_true (by kernel_rfl)⟩) | (rcases ht with rfl | rfl | rfl <;> exact ⟨by kernel_rfl, of_decide_eq_true (by kernel_rfl)⟩) | (rcases ht with rfl | rfl <;> exact ⟨by kernel_rfl, of_decide_eq_true (by kernel_rfl)⟩) | (subst ht; exact ⟨by kernel_rfl, of_decide_eq_true (by kernel_rfl)⟩)) rfl (by
    intro _; subst hds; rfl) hb⟩


end Go.Proofs.Ytccjedongkokoaa.fnExactTwinsIn

