/- FnExactFormatWorkshop: the program's FormatWorkshop returns what the reference's returns, for all arguments, where the listed variables hold what the program's text lays in them (the tied card). -/
import Derived.Handed
import Derived.LaidLaws
import Derived.Lay
import Derived.Lib.LaidTab
import Derived.Lib.LaidU8
import Derived.SevenTiedAt
import Derived.Stop.Joined
import Derived.Stop.LaidErr
import Derived.Test.YtlimlolciekimaaGreatDoorCards
import Derived.Test.YtlimlolciekimaaGreatDoorTie
import Derived.Test.YtlimlolciekimaaGreatDoorRows
import Derived.Test.YtlimlolciekimaaGreatDoorQFWFormatWorkshop
import Derived.Test.YtlimlolciekimaaGreatDoorQFb

namespace Go.Proofs.YtlimlolciekimaaGreatDoor.fnExactFormatWorkshop
open Go.ChangeShapes Go.WideShapes Go.ChangeAt Go.WideMaps Go.WideElems Go.RowKit
open Go.ChangeMaps (open_string shut_string)
set_option linter.unusedVariables false

theorem tab_pow {W : World} (h : laidMet Tryz.prog Rows.fnExactFormatWorkshopRow.laid W) : Lib.TabIs Tryz.prog W "internal/strconv.uint64pow10" .u64 Lib.pow10Tab := by
  have hr : Lib.VarReads Tryz.prog W "internal/strconv.uint64pow10" Rows.laid_internal_strconv_uint64pow10 := Lib.laidMet.reads h (.tail _ (.tail _ (.head _)))
  obtain ⟨g, t, cs, fuel, p, hg, ht, hv, hd⟩ := hr
  have h1 : Tryz.prog.globalNamed "internal/strconv.uint64pow10" = some 5 := by kernel_rfl
  obtain rfl := Option.some.inj (h1.symm.trans hg)
  have h2 : (Tryz.prog.globals[5]?).map (·.type) = some 268 := by kernel_rfl
  obtain rfl := Option.some.inj (h2.symm.trans ht)
  have h3 : (Rows.laid_internal_strconv_uint64pow10 : DataW Unit) = Lib.tabData .u64 Lib.pow10Tab := by kernel_rfl
  rw [h3] at hd
  have hcs := Lib.cells_of_tab Tryz.underlying268 Tryz.underlying231 (by kernel_rfl) (by kernel_rfl) hd
  show World.var? _ _ _ = _
  rw [hv, ← hcs]
theorem errs_of {W : World} (h0 : laidMetH Tryz.prog Rows.fnExactFormatWorkshopRow.laid W) : Tab W := by
  have h := h0
  rw [MakeChecks.laidMetH_plain _ _ _ (by kernel_rfl)] at h
  exact tab_pow h
set_option maxRecDepth 100000 in
set_option maxHeartbeats 1600000 in
theorem bigFormatWorkshop_1 (d1 f1 : Int) (ss1 : List ByteArray) (d2 f2 : Int) (ss2 : List ByteArray) (st : List PStep) (P : List PItem) (pp : List PPaper) (m : Int) (A1 A2 A3 A4 A5 : Option Addr) (c1 c2 c3 c4 c5 : Nat) (w : World) (hRW : RawWork w w.heap.size A1 A2 A3 A4 A5 (PDraft.mk d1 f1 ss1 d2 f2 ss2 st) P pp) (hz : szW (PDraft.mk d1 f1 ss1 d2 f2 ss2 st) P pp (1048576) < 0) :
    Calls Tryz.prog 4 #[.agg #[.int .i64 d1, .int .i64 f1, .slice A1 ss1.length c1, .int .i64 d2, .int .i64 f2, .slice A2 ss2.length c2, .slice A3 st.length c3, .slice A4 P.length c4, .slice A5 pp.length c5, .int .i64 m]] w fun e w' => e = .returned (.bool true) ∧ Below w.heap.size w w' := by
  go_enter Tryz.func4, Tryz.ntmps4
  go_wp2_with fail
  refine (l_szWorkshop d1 f1 ss1 d2 f2 ss2 st P pp m w.heap.size A1 A2 A3 A4 A5 c1 c2 c3 c4 c5 (1048576) _ (by simp; try omega) (hRW.below (by first | exact Below.refl _ _ | exact bel)) (by omega) (by omega)).mono ?_
  rintro e w1 ⟨rfl, hb_w1⟩
  have hbelow_1 : Below w.heap.size w w1 := bel
  obtain ⟨hcb_1, hfb_1⟩ := bcell hb_w1
  have hz_w1_0 : w.heap.size < w1.heap.size := (by have hzz := hb_w1.size; (try simp at hzz); omega); have hy_w1_0 := Nat.le_of_lt hz_w1_0
  go_wp2
  go_ret
  exact ⟨rfl, bel⟩

set_option maxRecDepth 100000 in
theorem lifted (os : Os) (started : os.Started) (H : Type) (enc : TypeId × Value → H) :
    ReturnsInHanded {} Tryz.checked os 4 .any (fun w args => (Rows.fnExactFormatWorkshopSpec.pre enc Tryz.prog Tryz.f4 [] false w args ∧ laidMetH Tryz.prog Rows.fnExactFormatWorkshopRow.laid w) ∧ sizedMet enc Tryz.prog Tryz.f4 (OpenSpec.ofChange Rows.fnExactFormatWorkshopSpec) false w args)
      (Rows.fnExactFormatWorkshopSpec.post enc Tryz.prog Tryz.f4 false true false false) := by
  refine returnsInHanded_of_change_and (C := Tryz.checked) (X := fun w _ => laidMetH Tryz.prog Rows.fnExactFormatWorkshopRow.laid w) (fun _ _ _ hh h => h.of_heap hh) own0 started (by kernel_rfl) Tryz.func4
    (ChangeSpec.witness_shaped (enc := enc) (C := Tryz.checked) (os := os) (X := fun w _ => laidMetH Tryz.prog Rows.fnExactFormatWorkshopRow.laid w) false (World.laidAll Tryz.prog os Rows.fnExactFormatWorkshopRow.laid) #[.agg #[.int .i64 0, .int .i64 0, .slice none 0 0, .int .i64 0, .int .i64 0, .slice none 0 0, .slice none 0 0, .slice none 0 0, .slice none 0 0, .int .i64 0]] 8 (World.laidAll_os _ _ _)
      (World.shaped_of_ZipB (by kernel_rfl) (by kernel_rfl)) (by kernel_rfl) (by kernel_rfl) (by kernel_rfl)
      (by rw [MakeChecks.laidMetH_plain _ _ _ (by kernel_rfl)]; exact laidMet_laidAll _ (by kernel_rfl) (by kernel_rfl))) ?_
  intro W base args ds gs before hval0 hW _ _ hL _
  have hval : ∀ (j : Nat) t v, Tryz.f4.params[j]? = some t → args[j]? = some v → Value.okWide Tryz.prog W .any base t v := hval0
  have hW' := hW
  obtain ⟨p, q, hA0, hV, _, _, _⟩ := hW
  have hA : DataW.TrodAll enc Tryz.prog W 0 (fun _ => true) true Tryz.f4.params.toList args.toList ds p := hA0
  rw [Tryz.params4] at hA hval
  obtain ⟨v0, vs0, d0, ds0, p0, q0, hargs, hds, _, h0, r0⟩ := trodAll_cons hA
  obtain ⟨rfl, rfl, _⟩ := trodAll_nil r0
  obtain rfl : args = #[v0] := by cases args; simp_all
  have hE := errs_of hL
  have fin : Calls Tryz.prog 4 #[v0] W fun e w' => e = .returned (.bool true) ∧ Below W.heap.size W w' := by
    obtain ⟨d1, f1, ss1, d2, f2, ss2, st, P, pp, m, A1, A2, A3, A4, A5, c1, c2, c3, c4, c5, rfl, hRW⟩ := open_work (hval 0 51 v0 rfl rfl) h0
    by_cases hz1 : szW (PDraft.mk d1 f1 ss1 d2 f2 ss2 st) P pp (1048576) < 0
    case pos => exact bigFormatWorkshop_1 d1 f1 ss1 d2 f2 ss2 st P pp m A1 A2 A3 A4 A5 c1 c2 c3 c4 c5 W hRW  hz1
    have hz1' : 0 ≤ szW (PDraft.mk d1 f1 ss1 d2 f2 ss2 st) P pp (1048576) := by omega
    have hub1 : szW (PDraft.mk d1 f1 ss1 d2 f2 ss2 st) P pp (1048576) ≤ 1048576 := szW_ub _ _ _ _ (by omega)
    obtain ⟨hSW, hnW⟩ := work_of_sz hRW (by omega) hz1'
    exact walkFormatWorkshop d1 f1 ss1 d2 f2 ss2 st P pp m A1 A2 A3 A4 A5 c1 c2 c3 c4 c5 W hSW hnW hE hz1'
  refine fin.mono fun e W' ⟨he, hb⟩ => ?_
  subst he
  exact ⟨_, rfl, post_law hW' rfl (by rw [Tryz.params4]; intro t ht; simp at ht; subst ht; exact ⟨by kernel_rfl, of_decide_eq_true (by kernel_rfl)⟩) rfl (by
    intro _; subst hds; rfl) hb⟩

end Go.Proofs.YtlimlolciekimaaGreatDoor.fnExactFormatWorkshop

