/- The walk of FnExactSampleWorkshop, for arguments that are not too large. -/
import Derived.Deep.DeepCutAuto
import Derived.Deep.RegionHeld3
import Derived.Deep.Slices
import Derived.Lib.SmallJoins
import Derived.SliceStrings
import Derived.Test.YtdddglihomchfaaGreatRows
import Derived.Test.YtdddglihomchfaaGreatQCp
import Derived.Test.YtdddglihomchfaaGreatQCm
import Derived.Test.YtdddglihomchfaaGreatQCb
namespace Go.Proofs.YtdddglihomchfaaGreat.fnExactSampleWorkshop
open Go.ChangeShapes Go.WideShapes Go.ChangeAt Go.RowKit Go.Joins Go.WideMaps Go.WideElems
open Go.ChangeMaps (open_string shut_string)
set_option linter.unusedVariables false
set_option maxRecDepth 100000 in
set_option maxHeartbeats 16000000 in
theorem walkSampleWorkshop  (w : World)   :
    Calls Tryz.prog 5 #[] w fun e w' => e = .returned (.bool true) ∧ Below w.heap.size w w' := by
  have hrok : OkWork (PDraft.mk ((openW 3 4 sampleSS 100).1.D.d1) ((openW 3 4 sampleSS 100).1.D.f1) ((openW 3 4 sampleSS 100).1.D.ss1) ((openW 3 4 sampleSS 100).1.D.d2) ((openW 3 4 sampleSS 100).1.D.f2) ((openW 3 4 sampleSS 100).1.D.ss2) ((openW 3 4 sampleSS 100).1.D.st)) ((openW 3 4 sampleSS 100).1.P) ((openW 3 4 sampleSS 100).1.pp) 1048576 := by
    exact openW_ok 3 4 sampleSS 100 sample_ok
  have hspec := fun (W : World)  => s_SampleWorkshop W
  have himpl := fun (W : World)  => i_SampleWorkshop W
  generalize hgen0 : ((openW 3 4 sampleSS 100).1.D.d1) = d1r at hspec himpl hrok
  generalize hgen1 : ((openW 3 4 sampleSS 100).1.D.f1) = f1r at hspec himpl hrok
  generalize hgen2 : ((openW 3 4 sampleSS 100).1.D.ss1) = ss1r at hspec himpl hrok
  generalize hgen3 : ((openW 3 4 sampleSS 100).1.D.d2) = d2r at hspec himpl hrok
  generalize hgen4 : ((openW 3 4 sampleSS 100).1.D.f2) = f2r at hspec himpl hrok
  generalize hgen5 : ((openW 3 4 sampleSS 100).1.D.ss2) = ss2r at hspec himpl hrok
  generalize hgen6 : ((openW 3 4 sampleSS 100).1.D.st) = str at hspec himpl hrok
  generalize hgen7 : ((openW 3 4 sampleSS 100).1.P) = Pr at hspec himpl hrok
  generalize hgen8 : ((openW 3 4 sampleSS 100).1.pp) = ppr at hspec himpl hrok
  generalize hgen9 : ((openW 3 4 sampleSS 100).1.m) = mr at hspec himpl hrok
  clear hgen0 hgen1 hgen2 hgen3 hgen4 hgen5 hgen6 hgen7 hgen8 hgen9
  have HSPEC := hide hspec
  have HIMPL := hide himpl
  clear hspec himpl
  have HOKR := hide hrok
  clear hrok
  go_enter Tryz.func5, Tryz.ntmps5
  have hbw_w : Below w.heap.size w w := Below.refl _ _
  have hsw_w := hbw_w.size
  go_wp2_with fail
  refine (unhide HSPEC _ ).mono ?_
  rintro e w1 ⟨A1_w0, c1_w0, A2_w0, c2_w0, A3_w0, c3_w0, A4_w0, c4_w0, A5_w0, c5_w0, rfl, hon, hb_w1⟩
  have hbw_w1 : Below w.heap.size w w1 := hbw_w.trans (Below.mono hb_w1 hsw_w)
  have hsw_w1 := hbw_w1.size
  have hch_w1 : w.heap.size ≤ w1.heap.size := hb_w1.size
  clear hbw_w hsw_w hb_w1
  have ho_w0_w1 := hon
  clear hon
  go_wp2_with fail
  have hk_w0_w2 := (blk_new_at w1 (.cells #[.int .i64 d1r, .int .i64 f1r, .slice A1_w0 ss1r.length c1_w0, .int .i64 d2r, .int .i64 f2r, .slice A2_w0 ss2r.length c2_w0, .slice A3_w0 str.length c3_w0, .slice A4_w0 Pr.length c4_w0, .slice A5_w0 ppr.length c5_w0, .int .i64 mr] 41) (k := w1.heap.size) (by simp))
  have ho_w0_w2 := (ho_w0_w1.alloc (.cells #[.int .i64 d1r, .int .i64 f1r, .slice A1_w0 ss1r.length c1_w0, .int .i64 d2r, .int .i64 f2r, .slice A2_w0 ss2r.length c2_w0, .slice A3_w0 str.length c3_w0, .slice A4_w0 Pr.length c4_w0, .slice A5_w0 ppr.length c5_w0, .int .i64 mr] 41))
  have hbw_w2 : Below w.heap.size w (w1.alloc (.cells #[.int .i64 d1r, .int .i64 f1r, .slice A1_w0 ss1r.length c1_w0, .int .i64 d2r, .int .i64 f2r, .slice A2_w0 ss2r.length c2_w0, .slice A3_w0 str.length c3_w0, .slice A4_w0 Pr.length c4_w0, .slice A5_w0 ppr.length c5_w0, .int .i64 mr] 41)) := bel
  have hsw_w2 := hbw_w2.size
  have hch_w2 : w1.heap.size + 1 ≤ (w1.alloc (.cells #[.int .i64 d1r, .int .i64 f1r, .slice A1_w0 ss1r.length c1_w0, .int .i64 d2r, .int .i64 f2r, .slice A2_w0 ss2r.length c2_w0, .slice A3_w0 str.length c3_w0, .slice A4_w0 Pr.length c4_w0, .slice A5_w0 ppr.length c5_w0, .int .i64 mr] 41)).heap.size := (by simp; try omega)
  generalize (w1.alloc (.cells #[.int .i64 d1r, .int .i64 f1r, .slice A1_w0 ss1r.length c1_w0, .int .i64 d2r, .int .i64 f2r, .slice A2_w0 ss2r.length c2_w0, .slice A3_w0 str.length c3_w0, .slice A4_w0 Pr.length c4_w0, .slice A5_w0 ppr.length c5_w0, .int .i64 mr] 41)) = w2 at *
  clear ho_w0_w1 hbw_w1 hsw_w1
  refine (unhide HIMPL _ ).mono ?_
  rintro e w3 ⟨A1_g0, c1_g0, A2_g0, c2_g0, A3_g0, c3_g0, A4_g0, c4_g0, A5_g0, c5_g0, rfl, hon, hb_w3⟩
  have hk_w0_w3 := blk_next hk_w0_w2 hb_w3
  have ho_w0_w3 := ho_w0_w2.below hb_w3
  have hbw_w3 : Below w.heap.size w w3 := hbw_w2.trans (Below.mono hb_w3 hsw_w2)
  have hsw_w3 := hbw_w3.size
  have hch_w3 : w2.heap.size ≤ w3.heap.size := hb_w3.size
  clear hk_w0_w2 ho_w0_w2 hbw_w2 hsw_w2 hb_w3
  have ho_g0_w3 := hon
  clear hon
  obtain ⟨hx0_w0, hx1_w0, hx2_w0, hx3_w0, hx4_w0, hx5_w0, hx6_w0, hx7_w0, hx8_w0, hx9_w0, hxl_w0⟩ := blk10 hk_w0_w3
  go_wp2_with fail
  clear hx0_w0 hx1_w0 hx2_w0 hx3_w0 hx4_w0 hx5_w0 hx6_w0 hx7_w0 hx8_w0 hx9_w0 hxl_w0
  have hk_w0_w4 := (blk_alloc hk_w0_w3 (.cells #[.int .i64 d1r, .int .i64 f1r, .slice A1_g0 ss1r.length c1_g0, .int .i64 d2r, .int .i64 f2r, .slice A2_g0 ss2r.length c2_g0, .slice A3_g0 str.length c3_g0, .slice A4_g0 Pr.length c4_g0, .slice A5_g0 ppr.length c5_g0, .int .i64 mr] 41))
  have hk_g0_w4 := (blk_new_at w3 (.cells #[.int .i64 d1r, .int .i64 f1r, .slice A1_g0 ss1r.length c1_g0, .int .i64 d2r, .int .i64 f2r, .slice A2_g0 ss2r.length c2_g0, .slice A3_g0 str.length c3_g0, .slice A4_g0 Pr.length c4_g0, .slice A5_g0 ppr.length c5_g0, .int .i64 mr] 41) (k := w3.heap.size) (by simp))
  have ho_w0_w4 := (ho_w0_w3.alloc (.cells #[.int .i64 d1r, .int .i64 f1r, .slice A1_g0 ss1r.length c1_g0, .int .i64 d2r, .int .i64 f2r, .slice A2_g0 ss2r.length c2_g0, .slice A3_g0 str.length c3_g0, .slice A4_g0 Pr.length c4_g0, .slice A5_g0 ppr.length c5_g0, .int .i64 mr] 41))
  have ho_g0_w4 := (ho_g0_w3.alloc (.cells #[.int .i64 d1r, .int .i64 f1r, .slice A1_g0 ss1r.length c1_g0, .int .i64 d2r, .int .i64 f2r, .slice A2_g0 ss2r.length c2_g0, .slice A3_g0 str.length c3_g0, .slice A4_g0 Pr.length c4_g0, .slice A5_g0 ppr.length c5_g0, .int .i64 mr] 41))
  have hbw_w4 : Below w.heap.size w (w3.alloc (.cells #[.int .i64 d1r, .int .i64 f1r, .slice A1_g0 ss1r.length c1_g0, .int .i64 d2r, .int .i64 f2r, .slice A2_g0 ss2r.length c2_g0, .slice A3_g0 str.length c3_g0, .slice A4_g0 Pr.length c4_g0, .slice A5_g0 ppr.length c5_g0, .int .i64 mr] 41)) := bel
  have hsw_w4 := hbw_w4.size
  have hch_w4 : w3.heap.size + 1 ≤ (w3.alloc (.cells #[.int .i64 d1r, .int .i64 f1r, .slice A1_g0 ss1r.length c1_g0, .int .i64 d2r, .int .i64 f2r, .slice A2_g0 ss2r.length c2_g0, .slice A3_g0 str.length c3_g0, .slice A4_g0 Pr.length c4_g0, .slice A5_g0 ppr.length c5_g0, .int .i64 mr] 41)).heap.size := (by simp; try omega)
  generalize (w3.alloc (.cells #[.int .i64 d1r, .int .i64 f1r, .slice A1_g0 ss1r.length c1_g0, .int .i64 d2r, .int .i64 f2r, .slice A2_g0 ss2r.length c2_g0, .slice A3_g0 str.length c3_g0, .slice A4_g0 Pr.length c4_g0, .slice A5_g0 ppr.length c5_g0, .int .i64 mr] 41)) = w4 at *
  clear hk_w0_w3 ho_w0_w3 ho_g0_w3 hbw_w3 hsw_w3
  refine (u_eqWorkshop d1r f1r ss1r d2r f2r ss2r str Pr ppr mr _ _ _ _ _ _ _ _ _ _ _ _ _ _ _ _ _ _ _ _ _ _ _ _ _ ho_g0_w4 ho_w0_w4 ((unhide HOKR).more (by omega))).mono ?_
  rintro e w5 ⟨rfl, hb_w5⟩
  have hk_w0_w5 := blk_next hk_w0_w4 hb_w5
  have hk_g0_w5 := blk_next hk_g0_w4 hb_w5
  have ho_w0_w5 := ho_w0_w4.below hb_w5
  have ho_g0_w5 := ho_g0_w4.below hb_w5
  have hbw_w5 : Below w.heap.size w w5 := hbw_w4.trans (Below.mono hb_w5 hsw_w4)
  have hsw_w5 := hbw_w5.size
  have hch_w5 : w4.heap.size ≤ w5.heap.size := hb_w5.size
  clear hk_w0_w4 hk_g0_w4 ho_w0_w4 ho_g0_w4 hbw_w4 hsw_w4 hb_w5
  obtain ⟨hx0_g0, hx1_g0, hx2_g0, hx3_g0, hx4_g0, hx5_g0, hx6_g0, hx7_g0, hx8_g0, hx9_g0, hxl_g0⟩ := blk10 hk_g0_w5
  go_wp2_with fail
  refine (u_markWorkshop d1r f1r ss1r d2r f2r ss2r str Pr ppr mr _ _ _ _ _ _ _ _ _ _ _ _ (1) _ ho_g0_w5 (by have hq1_HOKR := (unhide HOKR).d.l1; have hq2_HOKR := (unhide HOKR).d.l2; have hq3_HOKR := (unhide HOKR).d.l3; simp only at hq1_HOKR hq2_HOKR hq3_HOKR; have hq4_HOKR := cntI_le (unhide HOKR).i; have hq5_HOKR := (unhide HOKR).p; omega) (by have hq1_HOKR := (unhide HOKR).d.l1; have hq2_HOKR := (unhide HOKR).d.l2; have hq3_HOKR := (unhide HOKR).d.l3; simp only at hq1_HOKR hq2_HOKR hq3_HOKR; have hq4_HOKR := cntI_le (unhide HOKR).i; have hq5_HOKR := (unhide HOKR).p; omega) ((unhide HOKR).more (by omega))).mono ?_
  rintro e w6 ⟨rfl, hm_w6, hW_w6⟩
  clear hx0_g0 hx1_g0 hx2_g0 hx3_g0 hx4_g0 hx5_g0 hx6_g0 hx7_g0 hx8_g0 hx9_g0 hxl_g0
  have hk_w0_w6 := hW_w6.box hk_w0_w5
  have hk_g0_w6 := hW_w6.box hk_g0_w5
  have ho_w0_w6 := ho_w0_w5.within hW_w6 (by omega)
  have hbw_w6 : Below w.heap.size w w6 := hbw_w5.trans (hW_w6.below (by omega) (by omega))
  have hsw_w6 := hbw_w6.size
  have hch_w6 : w5.heap.size ≤ w6.heap.size := hW_w6.size
  clear hk_w0_w5 hk_g0_w5 ho_w0_w5 ho_g0_w5 hbw_w5 hsw_w5 hW_w6
  have ho_g0_w6 := hm_w6
  clear hm_w6
  obtain ⟨hx0_g0, hx1_g0, hx2_g0, hx3_g0, hx4_g0, hx5_g0, hx6_g0, hx7_g0, hx8_g0, hx9_g0, hxl_g0⟩ := blk10 hk_g0_w6
  go_wp2_with fail
  refine (u_heldWorkshop d1r f1r d2r f2r mr Pr _ _ _ _ _ _ _ _ _ _ _ _ _ _ _ _ (1) _ ho_g0_w6 (by have hq1_HOKR := (unhide HOKR).d.l1; have hq2_HOKR := (unhide HOKR).d.l2; have hq3_HOKR := (unhide HOKR).d.l3; simp only at hq1_HOKR hq2_HOKR hq3_HOKR; have hq4_HOKR := cntI_le (unhide HOKR).i; have hq5_HOKR := (unhide HOKR).p; omega) (by have hq1_HOKR := (unhide HOKR).d.l1; have hq2_HOKR := (unhide HOKR).d.l2; have hq3_HOKR := (unhide HOKR).d.l3; simp only at hq1_HOKR hq2_HOKR hq3_HOKR; have hq4_HOKR := cntI_le (unhide HOKR).i; have hq5_HOKR := (unhide HOKR).p; omega) (by have hq1_HOKR := (unhide HOKR).d.l1; have hq2_HOKR := (unhide HOKR).d.l2; have hq3_HOKR := (unhide HOKR).d.l3; simp only at hq1_HOKR hq2_HOKR hq3_HOKR; have hq4_HOKR := cntI_le (unhide HOKR).i; have hq5_HOKR := (unhide HOKR).p; omega) (by have hq1_HOKR := (unhide HOKR).d.l1; have hq2_HOKR := (unhide HOKR).d.l2; have hq3_HOKR := (unhide HOKR).d.l3; simp only at hq1_HOKR hq2_HOKR hq3_HOKR; have hq4_HOKR := cntI_le (unhide HOKR).i; have hq5_HOKR := (unhide HOKR).p; omega) (by have hq1_HOKR := (unhide HOKR).d.l1; have hq2_HOKR := (unhide HOKR).d.l2; have hq3_HOKR := (unhide HOKR).d.l3; simp only at hq1_HOKR hq2_HOKR hq3_HOKR; have hq4_HOKR := cntI_le (unhide HOKR).i; have hq5_HOKR := (unhide HOKR).p; omega) ((unhide HOKR).more (by omega)).i (by have hq1_HOKR := (unhide HOKR).d.l1; have hq2_HOKR := (unhide HOKR).d.l2; have hq3_HOKR := (unhide HOKR).d.l3; simp only at hq1_HOKR hq2_HOKR hq3_HOKR; have hq4_HOKR := cntI_le (unhide HOKR).i; have hq5_HOKR := (unhide HOKR).p; omega)).mono ?_
  rintro e w7 ⟨rfl, hb_w7⟩
  clear hx0_g0 hx1_g0 hx2_g0 hx3_g0 hx4_g0 hx5_g0 hx6_g0 hx7_g0 hx8_g0 hx9_g0 hxl_g0
  have hk_w0_w7 := blk_next hk_w0_w6 hb_w7
  have hk_g0_w7 := blk_next hk_g0_w6 hb_w7
  have ho_w0_w7 := ho_w0_w6.below hb_w7
  have ho_g0_w7 := ho_g0_w6.below hb_w7
  have hbw_w7 : Below w.heap.size w w7 := hbw_w6.trans (Below.mono hb_w7 hsw_w6)
  have hsw_w7 := hbw_w7.size
  have hch_w7 : w6.heap.size ≤ w7.heap.size := hb_w7.size
  clear hk_w0_w6 hk_g0_w6 ho_w0_w6 ho_g0_w6 hbw_w6 hsw_w6 hb_w7
  go_wp2_with fail
  refine (unhide HIMPL _ ).mono ?_
  rintro e w8 ⟨A1_h0, c1_h0, A2_h0, c2_h0, A3_h0, c3_h0, A4_h0, c4_h0, A5_h0, c5_h0, rfl, hon, hb_w8⟩
  have hk_w0_w8 := blk_next hk_w0_w7 hb_w8
  have hk_g0_w8 := blk_next hk_g0_w7 hb_w8
  have ho_w0_w8 := ho_w0_w7.below hb_w8
  have ho_g0_w8 := ho_g0_w7.below hb_w8
  have hbw_w8 : Below w.heap.size w w8 := hbw_w7.trans (Below.mono hb_w8 hsw_w7)
  have hsw_w8 := hbw_w8.size
  have hch_w8 : w7.heap.size ≤ w8.heap.size := hb_w8.size
  clear hk_w0_w7 hk_g0_w7 ho_w0_w7 ho_g0_w7 hbw_w7 hsw_w7 hb_w8
  have ho_h0_w8 := hon
  clear hon
  obtain ⟨hx0_w0, hx1_w0, hx2_w0, hx3_w0, hx4_w0, hx5_w0, hx6_w0, hx7_w0, hx8_w0, hx9_w0, hxl_w0⟩ := blk10 hk_w0_w8
  go_wp2_with fail
  clear hx0_w0 hx1_w0 hx2_w0 hx3_w0 hx4_w0 hx5_w0 hx6_w0 hx7_w0 hx8_w0 hx9_w0 hxl_w0
  have hk_w0_w9 := (blk_alloc hk_w0_w8 (.cells #[.int .i64 d1r, .int .i64 f1r, .slice A1_h0 ss1r.length c1_h0, .int .i64 d2r, .int .i64 f2r, .slice A2_h0 ss2r.length c2_h0, .slice A3_h0 str.length c3_h0, .slice A4_h0 Pr.length c4_h0, .slice A5_h0 ppr.length c5_h0, .int .i64 mr] 41))
  have hk_g0_w9 := (blk_alloc hk_g0_w8 (.cells #[.int .i64 d1r, .int .i64 f1r, .slice A1_h0 ss1r.length c1_h0, .int .i64 d2r, .int .i64 f2r, .slice A2_h0 ss2r.length c2_h0, .slice A3_h0 str.length c3_h0, .slice A4_h0 Pr.length c4_h0, .slice A5_h0 ppr.length c5_h0, .int .i64 mr] 41))
  have hk_h0_w9 := (blk_new_at w8 (.cells #[.int .i64 d1r, .int .i64 f1r, .slice A1_h0 ss1r.length c1_h0, .int .i64 d2r, .int .i64 f2r, .slice A2_h0 ss2r.length c2_h0, .slice A3_h0 str.length c3_h0, .slice A4_h0 Pr.length c4_h0, .slice A5_h0 ppr.length c5_h0, .int .i64 mr] 41) (k := w8.heap.size) (by simp))
  have ho_w0_w9 := (ho_w0_w8.alloc (.cells #[.int .i64 d1r, .int .i64 f1r, .slice A1_h0 ss1r.length c1_h0, .int .i64 d2r, .int .i64 f2r, .slice A2_h0 ss2r.length c2_h0, .slice A3_h0 str.length c3_h0, .slice A4_h0 Pr.length c4_h0, .slice A5_h0 ppr.length c5_h0, .int .i64 mr] 41))
  have ho_g0_w9 := (ho_g0_w8.alloc (.cells #[.int .i64 d1r, .int .i64 f1r, .slice A1_h0 ss1r.length c1_h0, .int .i64 d2r, .int .i64 f2r, .slice A2_h0 ss2r.length c2_h0, .slice A3_h0 str.length c3_h0, .slice A4_h0 Pr.length c4_h0, .slice A5_h0 ppr.length c5_h0, .int .i64 mr] 41))
  have ho_h0_w9 := (ho_h0_w8.alloc (.cells #[.int .i64 d1r, .int .i64 f1r, .slice A1_h0 ss1r.length c1_h0, .int .i64 d2r, .int .i64 f2r, .slice A2_h0 ss2r.length c2_h0, .slice A3_h0 str.length c3_h0, .slice A4_h0 Pr.length c4_h0, .slice A5_h0 ppr.length c5_h0, .int .i64 mr] 41))
  have hbw_w9 : Below w.heap.size w (w8.alloc (.cells #[.int .i64 d1r, .int .i64 f1r, .slice A1_h0 ss1r.length c1_h0, .int .i64 d2r, .int .i64 f2r, .slice A2_h0 ss2r.length c2_h0, .slice A3_h0 str.length c3_h0, .slice A4_h0 Pr.length c4_h0, .slice A5_h0 ppr.length c5_h0, .int .i64 mr] 41)) := bel
  have hsw_w9 := hbw_w9.size
  have hch_w9 : w8.heap.size + 1 ≤ (w8.alloc (.cells #[.int .i64 d1r, .int .i64 f1r, .slice A1_h0 ss1r.length c1_h0, .int .i64 d2r, .int .i64 f2r, .slice A2_h0 ss2r.length c2_h0, .slice A3_h0 str.length c3_h0, .slice A4_h0 Pr.length c4_h0, .slice A5_h0 ppr.length c5_h0, .int .i64 mr] 41)).heap.size := (by simp; try omega)
  generalize (w8.alloc (.cells #[.int .i64 d1r, .int .i64 f1r, .slice A1_h0 ss1r.length c1_h0, .int .i64 d2r, .int .i64 f2r, .slice A2_h0 ss2r.length c2_h0, .slice A3_h0 str.length c3_h0, .slice A4_h0 Pr.length c4_h0, .slice A5_h0 ppr.length c5_h0, .int .i64 mr] 41)) = w9 at *
  clear hk_w0_w8 hk_g0_w8 ho_w0_w8 ho_g0_w8 ho_h0_w8 hbw_w8 hsw_w8
  refine (u_eqWorkshop d1r f1r ss1r d2r f2r ss2r str Pr ppr mr _ _ _ _ _ _ _ _ _ _ _ _ _ _ _ _ _ _ _ _ _ _ _ _ _ ho_h0_w9 ho_w0_w9 ((unhide HOKR).more (by omega))).mono ?_
  rintro e w10 ⟨rfl, hb_w10⟩
  have hk_w0_w10 := blk_next hk_w0_w9 hb_w10
  have hk_g0_w10 := blk_next hk_g0_w9 hb_w10
  have hk_h0_w10 := blk_next hk_h0_w9 hb_w10
  have ho_w0_w10 := ho_w0_w9.below hb_w10
  have ho_g0_w10 := ho_g0_w9.below hb_w10
  have ho_h0_w10 := ho_h0_w9.below hb_w10
  have hbw_w10 : Below w.heap.size w w10 := hbw_w9.trans (Below.mono hb_w10 hsw_w9)
  have hsw_w10 := hbw_w10.size
  have hch_w10 : w9.heap.size ≤ w10.heap.size := hb_w10.size
  clear hk_w0_w9 hk_g0_w9 hk_h0_w9 ho_w0_w9 ho_g0_w9 ho_h0_w9 hbw_w9 hsw_w9 hb_w10
  obtain ⟨hx0_g0, hx1_g0, hx2_g0, hx3_g0, hx4_g0, hx5_g0, hx6_g0, hx7_g0, hx8_g0, hx9_g0, hxl_g0⟩ := blk10 hk_g0_w10
  go_wp2_with fail
  refine (u_heldWorkshop d1r f1r d2r f2r mr Pr _ _ _ _ _ _ _ _ _ _ _ _ _ _ _ _ (1) _ ho_g0_w10 (by have hq1_HOKR := (unhide HOKR).d.l1; have hq2_HOKR := (unhide HOKR).d.l2; have hq3_HOKR := (unhide HOKR).d.l3; simp only at hq1_HOKR hq2_HOKR hq3_HOKR; have hq4_HOKR := cntI_le (unhide HOKR).i; have hq5_HOKR := (unhide HOKR).p; omega) (by have hq1_HOKR := (unhide HOKR).d.l1; have hq2_HOKR := (unhide HOKR).d.l2; have hq3_HOKR := (unhide HOKR).d.l3; simp only at hq1_HOKR hq2_HOKR hq3_HOKR; have hq4_HOKR := cntI_le (unhide HOKR).i; have hq5_HOKR := (unhide HOKR).p; omega) (by have hq1_HOKR := (unhide HOKR).d.l1; have hq2_HOKR := (unhide HOKR).d.l2; have hq3_HOKR := (unhide HOKR).d.l3; simp only at hq1_HOKR hq2_HOKR hq3_HOKR; have hq4_HOKR := cntI_le (unhide HOKR).i; have hq5_HOKR := (unhide HOKR).p; omega) (by have hq1_HOKR := (unhide HOKR).d.l1; have hq2_HOKR := (unhide HOKR).d.l2; have hq3_HOKR := (unhide HOKR).d.l3; simp only at hq1_HOKR hq2_HOKR hq3_HOKR; have hq4_HOKR := cntI_le (unhide HOKR).i; have hq5_HOKR := (unhide HOKR).p; omega) (by have hq1_HOKR := (unhide HOKR).d.l1; have hq2_HOKR := (unhide HOKR).d.l2; have hq3_HOKR := (unhide HOKR).d.l3; simp only at hq1_HOKR hq2_HOKR hq3_HOKR; have hq4_HOKR := cntI_le (unhide HOKR).i; have hq5_HOKR := (unhide HOKR).p; omega) ((unhide HOKR).more (by omega)).i (by have hq1_HOKR := (unhide HOKR).d.l1; have hq2_HOKR := (unhide HOKR).d.l2; have hq3_HOKR := (unhide HOKR).d.l3; simp only at hq1_HOKR hq2_HOKR hq3_HOKR; have hq4_HOKR := cntI_le (unhide HOKR).i; have hq5_HOKR := (unhide HOKR).p; omega)).mono ?_
  rintro e w11 ⟨rfl, hb_w11⟩
  clear hx0_g0 hx1_g0 hx2_g0 hx3_g0 hx4_g0 hx5_g0 hx6_g0 hx7_g0 hx8_g0 hx9_g0 hxl_g0
  have hk_w0_w11 := blk_next hk_w0_w10 hb_w11
  have hk_g0_w11 := blk_next hk_g0_w10 hb_w11
  have hk_h0_w11 := blk_next hk_h0_w10 hb_w11
  have ho_w0_w11 := ho_w0_w10.below hb_w11
  have ho_g0_w11 := ho_g0_w10.below hb_w11
  have ho_h0_w11 := ho_h0_w10.below hb_w11
  have hbw_w11 : Below w.heap.size w w11 := hbw_w10.trans (Below.mono hb_w11 hsw_w10)
  have hsw_w11 := hbw_w11.size
  have hch_w11 : w10.heap.size ≤ w11.heap.size := hb_w11.size
  clear hk_w0_w10 hk_g0_w10 hk_h0_w10 ho_w0_w10 ho_g0_w10 ho_h0_w10 hbw_w10 hsw_w10 hb_w11
  go_wp2
  go_ret
  exact ⟨rfl, hbw_w11⟩
end Go.Proofs.YtdddglihomchfaaGreat.fnExactSampleWorkshop
