/- FnExactOpenWorkshop: the program's OpenWorkshop returns what the reference's returns, for all arguments; no condition. -/
import Derived.Deep.DeepCutAuto
import Derived.Deep.RegionHeld3
import Derived.Deep.Slices
import Derived.Lib.SmallJoins
import Derived.SliceStrings
import Derived.Test.YtdddglihomchfaaGreatRows
import Derived.Test.YtdddglihomchfaaGreatQCWOpenWorkshop
import Derived.Test.YtdddglihomchfaaGreatQCb

namespace Go.Proofs.YtdddglihomchfaaGreat.fnExactOpenWorkshop
open Go.ChangeShapes Go.WideShapes Go.ChangeAt Go.RowKit Go.Joins Go.WideMaps Go.WideElems
open Go.ChangeMaps (open_string shut_string)
set_option linter.unusedVariables false

set_option maxRecDepth 100000 in
set_option maxHeartbeats 1600000 in
theorem bigOpenWorkshop_1 (dC fC : Int) (AC : Option Addr) (nC cC : Nat) (ssC : List ByteArray) (m : Int) (w : World) (hRC : Reads w w.heap.size 1 AC nC (ssC.map Value.string)) (hmC : nC ≤ maxLen) (hbC : ∀ s ∈ ssC, s.size ≤ maxLen)  (hz : szStrs ssC (1048576) < 0) :
    Calls Tryz.prog 4 #[.agg #[.int .i64 dC, .int .i64 fC, .slice AC nC cC], .int .i64 m] w fun e w' => e = .returned (.bool true) ∧ Below w.heap.size w w' := by
  unfold maxLen at hmC hbC
  go_enter Tryz.func4, Tryz.ntmps4
  go_wp2_with fail
  refine (l_szCard dC fC w.heap.size AC nC cC ssC (1048576) _ (by simp; try omega) (hRC.below (by first | exact Below.refl _ _ | exact bel)) (by omega) (fun s h => by have := hbC s h; omega) (by omega) (by omega)).mono ?_
  rintro e w1 ⟨rfl, hb_w1⟩
  have hbelow_1 : Below w.heap.size w w1 := bel
  obtain ⟨hcb_1, hfb_1⟩ := bcell hb_w1
  have hz_w1_0 : w.heap.size < w1.heap.size := (by have hzz := hb_w1.size; (try simp at hzz); omega); have hy_w1_0 := Nat.le_of_lt hz_w1_0
  go_wp2
  go_ret
  exact ⟨rfl, bel⟩

set_option maxRecDepth 100000 in
theorem lifted (os : Os) (started : os.Started) (H : Type) (enc : TypeId × Value → H) :
    ReturnsInHanded {} Tryz.checked os 4 .any (Rows.fnExactOpenWorkshopSpec.pre6 enc Tryz.prog Tryz.f4 Rows.fnExactOpenWorkshopRow.domain false) (Rows.fnExactOpenWorkshopSpec.post enc Tryz.prog Tryz.f4 false true false false) := by
  refine returnsInHanded_of_change_shaped (C := Tryz.checked) own0 started (by kernel_rfl) Tryz.func4
    (ChangeSpec.witness6 (enc := enc) (C := Tryz.checked) false ⟨#[], #[.agg #[.int .i64 0, .int .i64 0, .slice none 0 0], .int .i64 0], []⟩ 8 (by kernel_rfl) (by kernel_rfl) (by kernel_rfl) (by kernel_rfl)) ?_
  intro W base args ds gs before hval0 hW hcnd _ hsh _
  have hval : ∀ (j : Nat) t v, Tryz.f4.params[j]? = some t → args[j]? = some v → Value.okWide Tryz.prog W .any base t v := hval0
  have hW' := hW
  obtain ⟨p, q, hA0, hV, _, hfz, hnd⟩ := hW
  have hA : DataW.TrodAll enc Tryz.prog W 0 (fun _ => true) true Tryz.f4.params.toList args.toList ds p := hA0
  rw [Tryz.params4] at hA hval
  obtain ⟨v0, vs0, d0, ds0, p0, q0, hargs, hds, _, h0, r0⟩ := trodAll_cons hA
  obtain ⟨v1, vs1, d1, ds1, p1, q1, rfl, rfl, _, h1, r1⟩ := trodAll_cons r0
  obtain ⟨rfl, rfl, _⟩ := trodAll_nil r1
  obtain rfl : args = #[v0, v1] := by cases args; simp_all
  have fin : Calls Tryz.prog 4 #[v0, v1] W fun e w' => e = .returned (.bool true) ∧ Below W.heap.size W w' := by
    obtain ⟨dC, fC, AC, nC, cC, ssC, rfl, hRC, hmC, hbC, _, _⟩ := open_card (hval 0 24 v0 rfl rfl) h0
    obtain ⟨m, rfl, _, hwf_m, _⟩ := open_int Tryz.underlying3 (hval 1 3 v1 rfl rfl) h1
    by_cases hz1 : szStrs ssC (1048576) < 0
    case pos => exact bigOpenWorkshop_1 dC fC AC nC cC ssC m W hRC hmC hbC   hz1
    have hz1' : 0 ≤ szStrs ssC (1048576) := by omega
    have hub1 : szStrs ssC (1048576) ≤ 1048576 := sz_ub _ _ (by omega)
    obtain ⟨hSC, hnC⟩ := strs_of_szl hRC (by omega) hz1'
    exact walkOpenWorkshop dC fC AC nC cC ssC m W hSC hnC hz1'
  refine fin.mono fun e W' ⟨he, hb⟩ => ?_
  subst he
  exact ⟨_, rfl, post_law hW' rfl (by rw [Tryz.params4]; intro t ht; simp at ht; first | (rcases ht with rfl | rfl | rfl | rfl <;> exact ⟨by kernel_rfl, of_decide_eq_true (by kernel_rfl)⟩) | (rcases ht with rfl | rfl | rfl <;> exact ⟨by kernel_rfl, of_decide_eq_true (by kernel_rfl)⟩) | (rcases ht with rfl | rfl <;> exact ⟨by kernel_rfl, of_decide_eq_true (by kernel_rfl)⟩) | (subst ht; exact ⟨by kernel_rfl, of_decide_eq_true (by kernel_rfl)⟩)) rfl (by
    intro _; subst hds; rfl) hb⟩


end Go.Proofs.YtdddglihomchfaaGreat.fnExactOpenWorkshop

