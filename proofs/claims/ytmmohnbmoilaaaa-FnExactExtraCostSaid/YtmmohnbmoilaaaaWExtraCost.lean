/- The walk of FnExactExtraCost, for arguments that are not too large. -/
import Derived.Test.YtmmohnbmoilaaaaFold7
import Derived.Test.YtmmohnbmoilaaaaLawBox
import Derived.Test.YtmmohnbmoilaaaaLawRates
import Derived.Test.YtmmohnbmoilaaaaUCard
import Derived.Test.YtmmohnbmoilaaaaLift
import Derived.Test.YtmmohnbmoilaaaaLawKit3
import Derived.Deep.Slices
import Derived.SliceStrings
import Derived.Lib.SmallJoins
import Derived.Deep.DeepCutAuto
import Derived.Deep.RegionHeld3
namespace Go.Proofs.Ytmmohnbmoilaaaa.fnExactExtraCost
open Go.ChangeShapes Go.WideShapes Go.ChangeAt Go.RowKit Go.Joins Go.WideMaps Go.WideElems
open Go.ChangeMaps (open_string shut_string)
set_option linter.unusedVariables false

set_option maxRecDepth 100000 in
set_option maxHeartbeats 16000000 in
theorem walkExtraCost (dC fC : Int) (AC : Option Addr) (nC cC : Nat) (ssC : List ByteArray) (G L T : Int) (S Cu F P : Int) (w : World) (hSC : Strs w w.heap.size AC nC ssC) (hnC : nC ≤ 1048576)   (hz1 : 0 ≤ szStrs ssC (1048576)) :
    Calls Try.prog 12 #[.agg #[.int .i64 dC, .int .i64 fC, .slice AC nC cC], .agg #[.int .i64 G, .int .i64 L, .int .i64 T], .agg #[.int .i64 S, .int .i64 Cu, .int .i64 F, .int .i64 P]] w fun e w' => e = .returned (.bool true) ∧ Below w.heap.size w w' := by
  have hokC : OkS ssC 1048576 := (by have hlC := hSC.len; exact ⟨by omega, hSC.sb⟩)
  have hspec := fun (W : World) (A_0C : Option Addr) (c_0C : Nat) (h_0C : Strs W W.heap.size A_0C ssC.length ssC) (hc_0C : ssC.length ≤ c_0C ∧ c_0C ≤ 9223372036854775807) => s_ExtraCost dC fC G L T S Cu F P W.heap.size A_0C ssC.length c_0C ssC W h_0C (Nat.le_refl _)
  have himpl := fun (W : World) (A_0C : Option Addr) (c_0C : Nat) (h_0C : Strs W W.heap.size A_0C ssC.length ssC) (hc_0C : ssC.length ≤ c_0C ∧ c_0C ≤ 9223372036854775807) => i_ExtraCost dC fC G L T S Cu F P W.heap.size A_0C ssC.length c_0C ssC W h_0C (Nat.le_refl _)
  generalize hgen0 : (extraOf dC fC ssC G L T S Cu F P) = rv at hspec himpl
  clear hgen0
  have HSPEC := hide hspec
  have HIMPL := hide himpl
  clear hspec himpl
  have HOKC := hide hokC
  clear hokC
  go_enter Try.func12, Try.ntmps12
  go_wp2_with fail
  have hk_aC_w1 := (blk_alloc (blk_alloc (blk_new_at w (.cells #[.int .i64 dC, .int .i64 fC, .slice AC nC cC] 24) (k := w.heap.size) (by simp)) (.cells #[.int .i64 G, .int .i64 L, .int .i64 T] 29)) (.cells #[.int .i64 S, .int .i64 Cu, .int .i64 F, .int .i64 P] 99))
  have hk_aB_w1 := (blk_alloc (blk_new_at (w.alloc (.cells #[.int .i64 dC, .int .i64 fC, .slice AC nC cC] 24)) (.cells #[.int .i64 G, .int .i64 L, .int .i64 T] 29) (k := w.heap.size + 1) (by simp)) (.cells #[.int .i64 S, .int .i64 Cu, .int .i64 F, .int .i64 P] 99))
  have hk_aR_w1 := (blk_new_at ((w.alloc (.cells #[.int .i64 dC, .int .i64 fC, .slice AC nC cC] 24)).alloc (.cells #[.int .i64 G, .int .i64 L, .int .i64 T] 29)) (.cells #[.int .i64 S, .int .i64 Cu, .int .i64 F, .int .i64 P] 99) (k := w.heap.size + 1 + 1) (by simp))
  have hbw_w1 : Below w.heap.size w (((w.alloc (.cells #[.int .i64 dC, .int .i64 fC, .slice AC nC cC] 24)).alloc (.cells #[.int .i64 G, .int .i64 L, .int .i64 T] 29)).alloc (.cells #[.int .i64 S, .int .i64 Cu, .int .i64 F, .int .i64 P] 99)) := (by repeat (first | (with_reducible exact Below.refl _ _) | (with_reducible assumption) | (with_reducible exact (‹_ ∧ _ ∧ Below _ _ _›).2.2) | (with_reducible refine below_drewN ?_ _) | (with_reducible refine Below.drew ?_) | ((with_reducible refine Below.alloc ?_ ?hsd _); (case hsd => (first | exact Nat.le_refl _ | (simp; done) | omega | (simp; omega) | exact (‹_ ∧ _ ∧ Below _ _ _›).2.2.size))) | ((with_reducible refine Below.setCell ?_ ?hsd _); (case hsd => (first | exact Nat.le_refl _ | (simp; done) | omega | (simp; omega) | exact (‹_ ∧ _ ∧ Below _ _ _›).2.2.size))) | ((with_reducible refine Below.trans ?_ (Below.mono (by with_reducible assumption) ?hsd)); (case hsd => (first | exact Nat.le_refl _ | (simp; done) | omega | (simp; omega) | exact (‹_ ∧ _ ∧ Below _ _ _›).2.2.size))) | exact Below.refl _ _ | assumption | exact (‹_ ∧ _ ∧ Below _ _ _›).2.2 | refine below_drewN ?_ _ | refine Below.drew ?_ | refine Below.alloc ?_ (by first | exact Nat.le_refl _ | (simp; done) | omega | (simp; omega) | exact (‹_ ∧ _ ∧ Below _ _ _›).2.2.size) _ | refine Below.setCell ?_ (by first | exact Nat.le_refl _ | (simp; done) | omega | (simp; omega) | exact (‹_ ∧ _ ∧ Below _ _ _›).2.2.size) _ | refine Below.trans ?_ (Below.mono (by assumption) (by first | exact Nat.le_refl _ | (simp; done) | omega | (simp; omega) | exact (‹_ ∧ _ ∧ Below _ _ _›).2.2.size))))
  have hsw_w1 := hbw_w1.size
  have hch_w1 : w.heap.size + 3 ≤ (((w.alloc (.cells #[.int .i64 dC, .int .i64 fC, .slice AC nC cC] 24)).alloc (.cells #[.int .i64 G, .int .i64 L, .int .i64 T] 29)).alloc (.cells #[.int .i64 S, .int .i64 Cu, .int .i64 F, .int .i64 P] 99)).heap.size := (by simp; try omega)
  generalize (((w.alloc (.cells #[.int .i64 dC, .int .i64 fC, .slice AC nC cC] 24)).alloc (.cells #[.int .i64 G, .int .i64 L, .int .i64 T] 29)).alloc (.cells #[.int .i64 S, .int .i64 Cu, .int .i64 F, .int .i64 P] 99)) = w1 at *
  refine (l_szCard dC fC w.heap.size AC nC cC ssC (1048576) _ hsw_w1 (hSC.rd.below hbw_w1) (by omega) (fun s hs => by have := hSC.sb s hs; omega) (by omega) (by omega)).mono ?_
  rintro e w2 ⟨rfl, hb_w2⟩
  have hk_aC_w2 := blk_next hk_aC_w1 hb_w2
  have hk_aB_w2 := blk_next hk_aB_w1 hb_w2
  have hk_aR_w2 := blk_next hk_aR_w1 hb_w2
  have hbw_w2 : Below w.heap.size w w2 := hbw_w1.trans (Below.mono hb_w2 hsw_w1)
  have hsw_w2 := hbw_w2.size
  have hch_w2 : w1.heap.size ≤ w2.heap.size := hb_w2.size
  clear hk_aC_w1 hk_aB_w1 hk_aR_w1 hbw_w1 hsw_w1 hb_w2
  have hub_w2 : szStrs ssC (1048576) ≤ 1048576 := sz_ub _ _ (by omega)
  obtain ⟨hx0_aC, hx1_aC, hx2_aC, hxl_aC⟩ := blk3 hk_aC_w2
  obtain ⟨hx0_aB, hx1_aB, hx2_aB, hxl_aB⟩ := blk3 hk_aB_w2
  obtain ⟨hx0_aR, hx1_aR, hx2_aR, hx3_aR, hxl_aR⟩ := blk4 hk_aR_w2
  go_upto_region 5 with fail
  have hSC_c := hSC.below hbw_w2
  go_cut [8] (fun s8 wx => s8 = .int .i64 rv ∧ Below w2.heap.size w2 wx)
  case first =>
    go_region_held3 (fun W => (∀ b o, b < w2.heap.size → W.cell? ⟨b, o, none⟩ = (w2).cell? ⟨b, o, none⟩) ∧ (∀ b o, b < w2.heap.size → W.frozen? ⟨b, o, none⟩ = (w2).frozen? ⟨b, o, none⟩) ∧ Below (w2.heap.size) (w2) W) (exact keep_of (by repeat (first | (with_reducible exact Below.refl _ _) | (with_reducible assumption) | (with_reducible exact (‹_ ∧ _ ∧ Below _ _ _›).2.2) | (with_reducible refine below_drewN ?_ _) | (with_reducible refine Below.drew ?_) | ((with_reducible refine Below.alloc ?_ ?hsd _); (case hsd => (first | exact Nat.le_refl _ | (simp; done) | omega | (simp; omega) | exact (‹_ ∧ _ ∧ Below _ _ _›).2.2.size))) | ((with_reducible refine Below.setCell ?_ ?hsd _); (case hsd => (first | exact Nat.le_refl _ | (simp; done) | omega | (simp; omega) | exact (‹_ ∧ _ ∧ Below _ _ _›).2.2.size))) | ((with_reducible refine Below.trans ?_ (Below.mono (by with_reducible assumption) ?hsd)); (case hsd => (first | exact Nat.le_refl _ | (simp; done) | omega | (simp; omega) | exact (‹_ ∧ _ ∧ Below _ _ _›).2.2.size))) | exact Below.refl _ _ | assumption | exact (‹_ ∧ _ ∧ Below _ _ _›).2.2 | refine below_drewN ?_ _ | refine Below.drew ?_ | refine Below.alloc ?_ (by first | exact Nat.le_refl _ | (simp; done) | omega | (simp; omega) | exact (‹_ ∧ _ ∧ Below _ _ _›).2.2.size) _ | refine Below.setCell ?_ (by first | exact Nat.le_refl _ | (simp; done) | omega | (simp; omega) | exact (‹_ ∧ _ ∧ Below _ _ _›).2.2.size) _ | refine Below.trans ?_ (Below.mono (by assumption) (by first | exact Nat.le_refl _ | (simp; done) | omega | (simp; omega) | exact (‹_ ∧ _ ∧ Below _ _ _›).2.2.size))))) (first | (go_at_call 51; have hq := (‹_ ∧ _ ∧ Below _ _ _›).2.2; refine (u_toCard dC fC w.heap.size AC nC cC ssC _ ?_ ?_).mono ?_; exact hSC_c.below (hq.mono hsw_w2); exact Nat.le_trans hsw_w2 hq.size; rintro e wt1_0 ⟨A_t1_0, c_t1_0, rfl, hor1_0, hbt1_0⟩; (have hot1_0 := hor1_0.wide (lo' := w2.heap.size) (hi' := wt1_0.heap.size) (by first | exact hq.size | exact Nat.le_refl _) (Nat.le_refl _)); clear hor1_0; have hqs1_0 := hq.size; have hbs1_0 := hbt1_0.size; (try simp at hqs1_0); (try simp at hbs1_0); obtain ⟨hcb1_0, hfb1_0⟩ := bcell hbt1_0; (try (have hzl_w2_1_0 : w2.heap.size < wt1_0.heap.size := (by omega)))) | (go_at_call 63; have hq := (‹_ ∧ _ ∧ Below _ _ _›).2.2; refine (l_toBox _ _ _ _).mono ?_; rintro e wt1_1 ⟨rfl, hbt1_1⟩; have hqs1_1 := hq.size; have hbs1_1 := hbt1_1.size; (try simp at hqs1_1); (try simp at hbs1_1); (have hot1_0 : OwnS wt1_1 (w2.heap.size) (wt1_0.heap.size) A_t1_0 c_t1_0 ssC := (by first | exact hot1_0.below hbt1_1 | exact (hot1_0.alloc _).below hbt1_1)); obtain ⟨hcb1_1, hfb1_1⟩ := bcell hbt1_1; (try (have hzl_w2_1_1 : w2.heap.size < wt1_1.heap.size := (by omega))); (try (have hzl_wt1_0_1_1 : wt1_0.heap.size < wt1_1.heap.size := (by omega)))) | (go_at_call 64; have hq := (‹_ ∧ _ ∧ Below _ _ _›).2.2; refine (l_toRates _ _ _ _ _).mono ?_; rintro e wt1_2 ⟨rfl, hbt1_2⟩; have hqs1_2 := hq.size; have hbs1_2 := hbt1_2.size; (try simp at hqs1_2); (try simp at hbs1_2); (have hot1_0 : OwnS wt1_2 (w2.heap.size) (wt1_0.heap.size) A_t1_0 c_t1_0 ssC := (by first | exact hot1_0.below hbt1_2 | exact (hot1_0.alloc _).below hbt1_2)); obtain ⟨hcb1_2, hfb1_2⟩ := bcell hbt1_2; (try (have hzl_w2_1_2 : w2.heap.size < wt1_2.heap.size := (by omega))); (try (have hzl_wt1_0_1_2 : wt1_0.heap.size < wt1_2.heap.size := (by omega))); (try (have hzl_wt1_1_1_2 : wt1_1.heap.size < wt1_2.heap.size := (by omega)))) | (go_at_call 62; have hqf := (‹_ ∧ _ ∧ Below _ _ _›).2.2; (first | refine (unhide HSPEC _ _ _ (hot1_0.rd ((unhide HOKC).more (by omega)).1 (unhide HOKC).2) (own_cap hot1_0.row)).mono ?_ | refine (unhide HSPEC _ _ _ ((hot1_0.alloc _).rd ((unhide HOKC).more (by omega)).1 (unhide HOKC).2) (own_cap (hot1_0.alloc _).row)).mono ?_); rintro e wf1 ⟨rfl, hbf1⟩))
    all_goals (go_wp2_with fail)
    all_goals (go_meet)
    all_goals (refine ⟨rfl, ?_⟩; exact (by repeat (first | (with_reducible exact Below.refl _ _) | (with_reducible assumption) | (with_reducible exact (‹_ ∧ _ ∧ Below _ _ _›).2.2) | (with_reducible refine below_drewN ?_ _) | (with_reducible refine Below.drew ?_) | ((with_reducible refine Below.alloc ?_ ?hsd _); (case hsd => (first | exact Nat.le_refl _ | (simp; done) | omega | (simp; omega) | exact (‹_ ∧ _ ∧ Below _ _ _›).2.2.size))) | ((with_reducible refine Below.setCell ?_ ?hsd _); (case hsd => (first | exact Nat.le_refl _ | (simp; done) | omega | (simp; omega) | exact (‹_ ∧ _ ∧ Below _ _ _›).2.2.size))) | ((with_reducible refine Below.trans ?_ (Below.mono (by with_reducible assumption) ?hsd)); (case hsd => (first | exact Nat.le_refl _ | (simp; done) | omega | (simp; omega) | exact (‹_ ∧ _ ∧ Below _ _ _›).2.2.size))) | exact Below.refl _ _ | assumption | exact (‹_ ∧ _ ∧ Below _ _ _›).2.2 | refine below_drewN ?_ _ | refine Below.drew ?_ | refine Below.alloc ?_ (by first | exact Nat.le_refl _ | (simp; done) | omega | (simp; omega) | exact (‹_ ∧ _ ∧ Below _ _ _›).2.2.size) _ | refine Below.setCell ?_ (by first | exact Nat.le_refl _ | (simp; done) | omega | (simp; omega) | exact (‹_ ∧ _ ∧ Below _ _ _›).2.2.size) _ | refine Below.trans ?_ (Below.mono (by assumption) (by first | exact Nat.le_refl _ | (simp; done) | omega | (simp; omega) | exact (‹_ ∧ _ ∧ Below _ _ _›).2.2.size)))))
  obtain ⟨rfl, hbn⟩ := hcut
  obtain ⟨w3, hwc⟩ : ∃ W, W = wc := ⟨_, rfl⟩
  subst hwc
  clear hx0_aC hx1_aC hx2_aC hxl_aC hx0_aB hx1_aB hx2_aB hxl_aB hx0_aR hx1_aR hx2_aR hx3_aR hxl_aR
  have hk_aC_w3 := blk_next hk_aC_w2 hbn
  have hk_aB_w3 := blk_next hk_aB_w2 hbn
  have hk_aR_w3 := blk_next hk_aR_w2 hbn
  have hbw_w3 : Below w.heap.size w w3 := hbw_w2.trans (Below.mono hbn hsw_w2)
  have hsw_w3 := hbw_w3.size
  have hch_w3 : w2.heap.size ≤ w3.heap.size := hbn.size
  clear hk_aC_w2 hk_aB_w2 hk_aR_w2 hbw_w2 hsw_w2 hbn
  clear hSC_c
  obtain ⟨hx0_aC, hx1_aC, hx2_aC, hxl_aC⟩ := blk3 hk_aC_w3
  go_wp2_with fail
  refine (u_toCard dC fC w.heap.size AC nC cC ssC _ (hSC.below hbw_w3) hsw_w3).mono ?_
  rintro e w4 ⟨A_x0, c_x0, rfl, hon, hb_w4⟩
  clear hx0_aC hx1_aC hx2_aC hxl_aC
  have hk_aC_w4 := blk_next hk_aC_w3 hb_w4
  have hk_aB_w4 := blk_next hk_aB_w3 hb_w4
  have hk_aR_w4 := blk_next hk_aR_w3 hb_w4
  have hbw_w4 : Below w.heap.size w w4 := hbw_w3.trans (Below.mono hb_w4 hsw_w3)
  have hsw_w4 := hbw_w4.size
  have hch_w4 : w3.heap.size ≤ w4.heap.size := hb_w4.size
  clear hk_aC_w3 hk_aB_w3 hk_aR_w3 hbw_w3 hsw_w3 hb_w4
  have ho_x0_w4 := hon
  clear hon
  obtain ⟨hx0_aB, hx1_aB, hx2_aB, hxl_aB⟩ := blk3 hk_aB_w4
  obtain ⟨hx0_aR, hx1_aR, hx2_aR, hx3_aR, hxl_aR⟩ := blk4 hk_aR_w4
  go_upto_region 7 with fail
  clear hx0_aB hx1_aB hx2_aB hxl_aB hx0_aR hx1_aR hx2_aR hx3_aR hxl_aR
  have hk_aC_w5 := (blk_alloc hk_aC_w4 (.cells #[.int .i64 dC, .int .i64 fC, .slice A_x0 ssC.length c_x0] 34))
  have hk_aB_w5 := (blk_alloc hk_aB_w4 (.cells #[.int .i64 dC, .int .i64 fC, .slice A_x0 ssC.length c_x0] 34))
  have hk_aR_w5 := (blk_alloc hk_aR_w4 (.cells #[.int .i64 dC, .int .i64 fC, .slice A_x0 ssC.length c_x0] 34))
  have hk_x0_w5 := (blk_new_at w4 (.cells #[.int .i64 dC, .int .i64 fC, .slice A_x0 ssC.length c_x0] 34) (k := w4.heap.size) (by simp))
  have ho_x0_w5 := (ho_x0_w4.alloc (.cells #[.int .i64 dC, .int .i64 fC, .slice A_x0 ssC.length c_x0] 34))
  have hbw_w5 : Below w.heap.size w (w4.alloc (.cells #[.int .i64 dC, .int .i64 fC, .slice A_x0 ssC.length c_x0] 34)) := (by repeat (first | (with_reducible exact Below.refl _ _) | (with_reducible assumption) | (with_reducible exact (‹_ ∧ _ ∧ Below _ _ _›).2.2) | (with_reducible refine below_drewN ?_ _) | (with_reducible refine Below.drew ?_) | ((with_reducible refine Below.alloc ?_ ?hsd _); (case hsd => (first | exact Nat.le_refl _ | (simp; done) | omega | (simp; omega) | exact (‹_ ∧ _ ∧ Below _ _ _›).2.2.size))) | ((with_reducible refine Below.setCell ?_ ?hsd _); (case hsd => (first | exact Nat.le_refl _ | (simp; done) | omega | (simp; omega) | exact (‹_ ∧ _ ∧ Below _ _ _›).2.2.size))) | ((with_reducible refine Below.trans ?_ (Below.mono (by with_reducible assumption) ?hsd)); (case hsd => (first | exact Nat.le_refl _ | (simp; done) | omega | (simp; omega) | exact (‹_ ∧ _ ∧ Below _ _ _›).2.2.size))) | exact Below.refl _ _ | assumption | exact (‹_ ∧ _ ∧ Below _ _ _›).2.2 | refine below_drewN ?_ _ | refine Below.drew ?_ | refine Below.alloc ?_ (by first | exact Nat.le_refl _ | (simp; done) | omega | (simp; omega) | exact (‹_ ∧ _ ∧ Below _ _ _›).2.2.size) _ | refine Below.setCell ?_ (by first | exact Nat.le_refl _ | (simp; done) | omega | (simp; omega) | exact (‹_ ∧ _ ∧ Below _ _ _›).2.2.size) _ | refine Below.trans ?_ (Below.mono (by assumption) (by first | exact Nat.le_refl _ | (simp; done) | omega | (simp; omega) | exact (‹_ ∧ _ ∧ Below _ _ _›).2.2.size))))
  have hsw_w5 := hbw_w5.size
  have hch_w5 : w4.heap.size + 1 ≤ (w4.alloc (.cells #[.int .i64 dC, .int .i64 fC, .slice A_x0 ssC.length c_x0] 34)).heap.size := (by simp; try omega)
  generalize (w4.alloc (.cells #[.int .i64 dC, .int .i64 fC, .slice A_x0 ssC.length c_x0] 34)) = w5 at *
  clear hk_aC_w4 hk_aB_w4 hk_aR_w4 ho_x0_w4 hbw_w4 hsw_w4
  obtain ⟨hx0_aB, hx1_aB, hx2_aB, hxl_aB⟩ := blk3 hk_aB_w5
  obtain ⟨hx0_aR, hx1_aR, hx2_aR, hx3_aR, hxl_aR⟩ := blk4 hk_aR_w5
  obtain ⟨hx0_x0, hx1_x0, hx2_x0, hxl_x0⟩ := blk3 hk_x0_w5
  go_cut [10] (fun s10 wx => s10 = .int .i64 rv ∧ Below w5.heap.size w5 wx)
  case first =>
    go_region_held3 (fun W => (∀ b o, b < w5.heap.size → W.cell? ⟨b, o, none⟩ = (w5).cell? ⟨b, o, none⟩) ∧ (∀ b o, b < w5.heap.size → W.frozen? ⟨b, o, none⟩ = (w5).frozen? ⟨b, o, none⟩) ∧ Below (w5.heap.size) (w5) W) (exact keep_of (by repeat (first | (with_reducible exact Below.refl _ _) | (with_reducible assumption) | (with_reducible exact (‹_ ∧ _ ∧ Below _ _ _›).2.2) | (with_reducible refine below_drewN ?_ _) | (with_reducible refine Below.drew ?_) | ((with_reducible refine Below.alloc ?_ ?hsd _); (case hsd => (first | exact Nat.le_refl _ | (simp; done) | omega | (simp; omega) | exact (‹_ ∧ _ ∧ Below _ _ _›).2.2.size))) | ((with_reducible refine Below.setCell ?_ ?hsd _); (case hsd => (first | exact Nat.le_refl _ | (simp; done) | omega | (simp; omega) | exact (‹_ ∧ _ ∧ Below _ _ _›).2.2.size))) | ((with_reducible refine Below.trans ?_ (Below.mono (by with_reducible assumption) ?hsd)); (case hsd => (first | exact Nat.le_refl _ | (simp; done) | omega | (simp; omega) | exact (‹_ ∧ _ ∧ Below _ _ _›).2.2.size))) | exact Below.refl _ _ | assumption | exact (‹_ ∧ _ ∧ Below _ _ _›).2.2 | refine below_drewN ?_ _ | refine Below.drew ?_ | refine Below.alloc ?_ (by first | exact Nat.le_refl _ | (simp; done) | omega | (simp; omega) | exact (‹_ ∧ _ ∧ Below _ _ _›).2.2.size) _ | refine Below.setCell ?_ (by first | exact Nat.le_refl _ | (simp; done) | omega | (simp; omega) | exact (‹_ ∧ _ ∧ Below _ _ _›).2.2.size) _ | refine Below.trans ?_ (Below.mono (by assumption) (by first | exact Nat.le_refl _ | (simp; done) | omega | (simp; omega) | exact (‹_ ∧ _ ∧ Below _ _ _›).2.2.size))))) (first | (go_at_call 63; have hq := (‹_ ∧ _ ∧ Below _ _ _›).2.2; refine (l_toBox _ _ _ _).mono ?_; rintro e wt2_0 ⟨rfl, hbt2_0⟩; have hqs2_0 := hq.size; have hbs2_0 := hbt2_0.size; (try simp at hqs2_0); (try simp at hbs2_0); obtain ⟨hcb2_0, hfb2_0⟩ := bcell hbt2_0; (try (have hzl_w5_2_0 : w5.heap.size < wt2_0.heap.size := (by omega)))) | (go_at_call 64; have hq := (‹_ ∧ _ ∧ Below _ _ _›).2.2; refine (l_toRates _ _ _ _ _).mono ?_; rintro e wt2_1 ⟨rfl, hbt2_1⟩; have hqs2_1 := hq.size; have hbs2_1 := hbt2_1.size; (try simp at hqs2_1); (try simp at hbs2_1); obtain ⟨hcb2_1, hfb2_1⟩ := bcell hbt2_1; (try (have hzl_w5_2_1 : w5.heap.size < wt2_1.heap.size := (by omega))); (try (have hzl_wt2_0_2_1 : wt2_0.heap.size < wt2_1.heap.size := (by omega)))) | (go_at_call 65; have hqf := (‹_ ∧ _ ∧ Below _ _ _›).2.2; (first | refine (unhide HIMPL _ _ _ ((ho_x0_w5.below hqf).rd ((unhide HOKC).more (by omega)).1 (unhide HOKC).2) (own_cap (ho_x0_w5.below hqf).row)).mono ?_); rintro e wf2 ⟨rfl, hbf2⟩))
    all_goals (go_wp2_with fail)
    all_goals (go_meet)
    all_goals (refine ⟨rfl, ?_⟩; exact (by repeat (first | (with_reducible exact Below.refl _ _) | (with_reducible assumption) | (with_reducible exact (‹_ ∧ _ ∧ Below _ _ _›).2.2) | (with_reducible refine below_drewN ?_ _) | (with_reducible refine Below.drew ?_) | ((with_reducible refine Below.alloc ?_ ?hsd _); (case hsd => (first | exact Nat.le_refl _ | (simp; done) | omega | (simp; omega) | exact (‹_ ∧ _ ∧ Below _ _ _›).2.2.size))) | ((with_reducible refine Below.setCell ?_ ?hsd _); (case hsd => (first | exact Nat.le_refl _ | (simp; done) | omega | (simp; omega) | exact (‹_ ∧ _ ∧ Below _ _ _›).2.2.size))) | ((with_reducible refine Below.trans ?_ (Below.mono (by with_reducible assumption) ?hsd)); (case hsd => (first | exact Nat.le_refl _ | (simp; done) | omega | (simp; omega) | exact (‹_ ∧ _ ∧ Below _ _ _›).2.2.size))) | exact Below.refl _ _ | assumption | exact (‹_ ∧ _ ∧ Below _ _ _›).2.2 | refine below_drewN ?_ _ | refine Below.drew ?_ | refine Below.alloc ?_ (by first | exact Nat.le_refl _ | (simp; done) | omega | (simp; omega) | exact (‹_ ∧ _ ∧ Below _ _ _›).2.2.size) _ | refine Below.setCell ?_ (by first | exact Nat.le_refl _ | (simp; done) | omega | (simp; omega) | exact (‹_ ∧ _ ∧ Below _ _ _›).2.2.size) _ | refine Below.trans ?_ (Below.mono (by assumption) (by first | exact Nat.le_refl _ | (simp; done) | omega | (simp; omega) | exact (‹_ ∧ _ ∧ Below _ _ _›).2.2.size)))))
  obtain ⟨rfl, hbn⟩ := hcut
  obtain ⟨w6, hwc⟩ : ∃ W, W = wc := ⟨_, rfl⟩
  subst hwc
  clear hx0_aB hx1_aB hx2_aB hxl_aB hx0_aR hx1_aR hx2_aR hx3_aR hxl_aR hx0_x0 hx1_x0 hx2_x0 hxl_x0
  have hk_aC_w6 := blk_next hk_aC_w5 hbn
  have hk_aB_w6 := blk_next hk_aB_w5 hbn
  have hk_aR_w6 := blk_next hk_aR_w5 hbn
  have hk_x0_w6 := blk_next hk_x0_w5 hbn
  have ho_x0_w6 := ho_x0_w5.below hbn
  have hbw_w6 : Below w.heap.size w w6 := hbw_w5.trans (Below.mono hbn hsw_w5)
  have hsw_w6 := hbw_w6.size
  have hch_w6 : w5.heap.size ≤ w6.heap.size := hbn.size
  clear hk_aC_w5 hk_aB_w5 hk_aR_w5 hk_x0_w5 ho_x0_w5 hbw_w5 hsw_w5 hbn
  obtain ⟨hx0_aC, hx1_aC, hx2_aC, hxl_aC⟩ := blk3 hk_aC_w6
  obtain ⟨hx0_x0, hx1_x0, hx2_x0, hxl_x0⟩ := blk3 hk_x0_w6
  go_wp2_with fail
  have hS_c := hSC.below hbw_w6
  go_region_held3 (fun W => (∀ b o, b < w6.heap.size → W.cell? ⟨b, o, none⟩ = (w6).cell? ⟨b, o, none⟩) ∧ (∀ b o, b < w6.heap.size → W.frozen? ⟨b, o, none⟩ = (w6).frozen? ⟨b, o, none⟩) ∧ Below (w6.heap.size) (w6) W) (exact keep_of (by repeat (first | (with_reducible exact Below.refl _ _) | (with_reducible assumption) | (with_reducible exact (‹_ ∧ _ ∧ Below _ _ _›).2.2) | (with_reducible refine below_drewN ?_ _) | (with_reducible refine Below.drew ?_) | ((with_reducible refine Below.alloc ?_ ?hsd _); (case hsd => (first | exact Nat.le_refl _ | (simp; done) | omega | (simp; omega) | exact (‹_ ∧ _ ∧ Below _ _ _›).2.2.size))) | ((with_reducible refine Below.setCell ?_ ?hsd _); (case hsd => (first | exact Nat.le_refl _ | (simp; done) | omega | (simp; omega) | exact (‹_ ∧ _ ∧ Below _ _ _›).2.2.size))) | ((with_reducible refine Below.trans ?_ (Below.mono (by with_reducible assumption) ?hsd)); (case hsd => (first | exact Nat.le_refl _ | (simp; done) | omega | (simp; omega) | exact (‹_ ∧ _ ∧ Below _ _ _›).2.2.size))) | exact Below.refl _ _ | assumption | exact (‹_ ∧ _ ∧ Below _ _ _›).2.2 | refine below_drewN ?_ _ | refine Below.drew ?_ | refine Below.alloc ?_ (by first | exact Nat.le_refl _ | (simp; done) | omega | (simp; omega) | exact (‹_ ∧ _ ∧ Below _ _ _›).2.2.size) _ | refine Below.setCell ?_ (by first | exact Nat.le_refl _ | (simp; done) | omega | (simp; omega) | exact (‹_ ∧ _ ∧ Below _ _ _›).2.2.size) _ | refine Below.trans ?_ (Below.mono (by assumption) (by first | exact Nat.le_refl _ | (simp; done) | omega | (simp; omega) | exact (‹_ ∧ _ ∧ Below _ _ _›).2.2.size))))) (first | (go_at_call 51; have hq := (‹_ ∧ _ ∧ Below _ _ _›).2.2; refine (u_toCard dC fC w.heap.size AC nC cC ssC _ ?_ ?_).mono ?_; exact hS_c.below (hq.mono hsw_w6); exact Nat.le_trans hsw_w6 hq.size; rintro e wa_w7 ⟨A_aw7, c_aw7, rfl, hoa, hba⟩) | (go_at_call 41; have hq2 := (‹_ ∧ _ ∧ Below _ _ _›).2.2; (first | refine (u_eqCard dC fC _ _ _ _ ssC _ _ _ _ _ (ho_x0_w6.below hq2) hoa ((unhide HOKC).more (by omega))).mono ?_ | refine (u_eqCard dC fC _ _ _ _ ssC _ _ _ _ _ (ho_x0_w6.below hq2) hoa.drew ((unhide HOKC).more (by omega))).mono ?_); rintro e w7 ⟨rfl, hbz⟩))
  have hb67 : Below w6.heap.size w6 wa_w7 := (Below.refl _ _).drew.trans hba
  have hz7 : w6.heap.size ≤ wa_w7.heap.size := hba.size
  have hb68 : Below w6.heap.size w6 w7 := hb67.trans (hbz.mono hz7)
  clear hS_c hoa hba hbz hb67 hz7
  clear hx0_aC hx1_aC hx2_aC hxl_aC hx0_x0 hx1_x0 hx2_x0 hxl_x0
  have hk_aC_w7 := blk_next hk_aC_w6 hb68
  have hk_aB_w7 := blk_next hk_aB_w6 hb68
  have hk_aR_w7 := blk_next hk_aR_w6 hb68
  have hk_x0_w7 := blk_next hk_x0_w6 hb68
  have ho_x0_w7 := ho_x0_w6.below hb68
  have hbw_w7 : Below w.heap.size w w7 := hbw_w6.trans (Below.mono hb68 hsw_w6)
  have hsw_w7 := hbw_w7.size
  have hch_w7 : w6.heap.size ≤ w7.heap.size := hb68.size
  clear hk_aC_w6 hk_aB_w6 hk_aR_w6 hk_x0_w6 ho_x0_w6 hbw_w6 hsw_w6 hb68
  go_wp2
  go_ret
  exact ⟨rfl, hbw_w7⟩

end Go.Proofs.Ytmmohnbmoilaaaa.fnExactExtraCost
