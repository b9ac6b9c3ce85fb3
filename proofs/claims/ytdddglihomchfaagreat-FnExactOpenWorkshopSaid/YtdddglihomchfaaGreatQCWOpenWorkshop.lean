/- The walk of FnExactOpenWorkshop, for arguments that are not too large. -/
import Derived.Deep.DeepCutAuto
import Derived.Deep.RegionHeld3
import Derived.Deep.Slices
import Derived.Lib.SmallJoins
import Derived.SliceStrings
import Derived.Test.YtdddglihomchfaaGreatRows
import Derived.Test.YtdddglihomchfaaGreatQCp
import Derived.Test.YtdddglihomchfaaGreatQCm
import Derived.Test.YtdddglihomchfaaGreatQCb
namespace Go.Proofs.YtdddglihomchfaaGreat.fnExactOpenWorkshop
open Go.ChangeShapes Go.WideShapes Go.ChangeAt Go.RowKit Go.Joins Go.WideMaps Go.WideElems
open Go.ChangeMaps (open_string shut_string)
set_option linter.unusedVariables false
set_option maxRecDepth 100000 in
set_option maxHeartbeats 16000000 in
theorem walkOpenWorkshop (dC fC : Int) (AC : Option Addr) (nC cC : Nat) (ssC : List ByteArray) (m : Int) (w : World) (hSC : Strs w w.heap.size AC nC ssC) (hnC : nC ≤ 1048576)  (hz1 : 0 ≤ szStrs ssC (1048576)) :
    Calls Tryz.prog 4 #[.agg #[.int .i64 dC, .int .i64 fC, .slice AC nC cC], .int .i64 m] w fun e w' => e = .returned (.bool true) ∧ Below w.heap.size w w' := by
  have hokC : OkS ssC 1048576 := (by have hlC := hSC.len; exact ⟨by omega, hSC.sb⟩)
  have hrok : OkWork (PDraft.mk ((openW dC fC ssC m).1.D.d1) ((openW dC fC ssC m).1.D.f1) ((openW dC fC ssC m).1.D.ss1) ((openW dC fC ssC m).1.D.d2) ((openW dC fC ssC m).1.D.f2) ((openW dC fC ssC m).1.D.ss2) ((openW dC fC ssC m).1.D.st)) ((openW dC fC ssC m).1.P) ((openW dC fC ssC m).1.pp) 1048576 := by
    exact openW_ok dC fC ssC m hokC
  have hspec := fun (W : World) (A_0C : Option Addr) (c_0C : Nat) (h_0C : Strs W W.heap.size A_0C ssC.length ssC) (hc_0C : ssC.length ≤ c_0C ∧ c_0C ≤ 9223372036854775807) => s_OpenWorkshop dC fC m W.heap.size A_0C c_0C ssC W h_0C (Nat.le_refl _) (hokC.more (by omega))
  have himpl := fun (W : World) (A_0C : Option Addr) (c_0C : Nat) (h_0C : Strs W W.heap.size A_0C ssC.length ssC) (hc_0C : ssC.length ≤ c_0C ∧ c_0C ≤ 9223372036854775807) => i_OpenWorkshop dC fC m W.heap.size A_0C c_0C ssC W h_0C (Nat.le_refl _) (hokC.more (by omega))
  generalize hgen0 : ((openW dC fC ssC m).1.D.d1) = d1r at hspec himpl hrok
  generalize hgen1 : ((openW dC fC ssC m).1.D.f1) = f1r at hspec himpl hrok
  generalize hgen2 : ((openW dC fC ssC m).1.D.ss1) = ss1r at hspec himpl hrok
  generalize hgen3 : ((openW dC fC ssC m).1.D.d2) = d2r at hspec himpl hrok
  generalize hgen4 : ((openW dC fC ssC m).1.D.f2) = f2r at hspec himpl hrok
  generalize hgen5 : ((openW dC fC ssC m).1.D.ss2) = ss2r at hspec himpl hrok
  generalize hgen6 : ((openW dC fC ssC m).1.D.st) = str at hspec himpl hrok
  generalize hgen7 : ((openW dC fC ssC m).1.P) = Pr at hspec himpl hrok
  generalize hgen8 : ((openW dC fC ssC m).1.pp) = ppr at hspec himpl hrok
  generalize hgen9 : ((openW dC fC ssC m).1.m) = mr at hspec himpl hrok
  generalize hgen10 : ((openW dC fC ssC m).2) = rb at hspec himpl hrok
  clear hgen0 hgen1 hgen2 hgen3 hgen4 hgen5 hgen6 hgen7 hgen8 hgen9 hgen10
  have HSPEC := hide hspec
  have HIMPL := hide himpl
  clear hspec himpl
  have HOKC := hide hokC
  clear hokC
  have HOKR := hide hrok
  clear hrok
  go_enter Tryz.func4, Tryz.ntmps4
  go_wp2_with fail
  have hk_aC_w1 := (blk_new_at w (.cells #[.int .i64 dC, .int .i64 fC, .slice AC nC cC] 24) (k := w.heap.size) (by simp))
  have hbw_w1 : Below w.heap.size w (w.alloc (.cells #[.int .i64 dC, .int .i64 fC, .slice AC nC cC] 24)) := bel
  have hsw_w1 := hbw_w1.size
  have hch_w1 : w.heap.size + 1 ≤ (w.alloc (.cells #[.int .i64 dC, .int .i64 fC, .slice AC nC cC] 24)).heap.size := (by simp; try omega)
  generalize (w.alloc (.cells #[.int .i64 dC, .int .i64 fC, .slice AC nC cC] 24)) = w1 at *
  refine (l_szCard dC fC w.heap.size AC nC cC ssC (1048576) _ hsw_w1 (hSC.rd.below hbw_w1) (by omega) (fun s hs => by have := hSC.sb s hs; omega) (by omega) (by omega)).mono ?_
  rintro e w2 ⟨rfl, hb_w2⟩
  have hk_aC_w2 := blk_next hk_aC_w1 hb_w2
  have hbw_w2 : Below w.heap.size w w2 := hbw_w1.trans (Below.mono hb_w2 hsw_w1)
  have hsw_w2 := hbw_w2.size
  have hch_w2 : w1.heap.size ≤ w2.heap.size := hb_w2.size
  clear hk_aC_w1 hbw_w1 hsw_w1 hb_w2
  have hub_w2 : szStrs ssC (1048576) ≤ 1048576 := sz_ub _ _ (by omega)
  obtain ⟨hx0_aC, hx1_aC, hx2_aC, hxl_aC⟩ := blk3 hk_aC_w2
  go_wp2_with fail
  refine (u_toCard dC fC w.heap.size AC nC cC ssC _ (hSC.below hbw_w2) hsw_w2).mono ?_
  rintro e w3 ⟨A_t1_0, c_t1_0, rfl, hon, hb_w3⟩
  clear hx0_aC hx1_aC hx2_aC hxl_aC
  have hk_aC_w3 := blk_next hk_aC_w2 hb_w3
  have hbw_w3 : Below w.heap.size w w3 := hbw_w2.trans (Below.mono hb_w3 hsw_w2)
  have hsw_w3 := hbw_w3.size
  have hch_w3 : w2.heap.size ≤ w3.heap.size := hb_w3.size
  clear hk_aC_w2 hbw_w2 hsw_w2 hb_w3
  have ho_t1_0_w3 := hon
  clear hon
  obtain ⟨hx0_aC, hx1_aC, hx2_aC, hxl_aC⟩ := blk3 hk_aC_w3
  go_wp2_with fail
  refine (unhide HSPEC _ _ _ (ho_t1_0_w3.rd ((unhide HOKC).more (by omega)).1 (unhide HOKC).2) (own_cap ho_t1_0_w3.row)).mono ?_
  rintro e w4 ⟨A1_w0, c1_w0, A2_w0, c2_w0, A3_w0, c3_w0, A4_w0, c4_w0, A5_w0, c5_w0, rfl, hon, hb_w4⟩
  clear ho_t1_0_w3
  clear hx0_aC hx1_aC hx2_aC hxl_aC
  have hk_aC_w4 := blk_next hk_aC_w3 hb_w4
  have hbw_w4 : Below w.heap.size w w4 := hbw_w3.trans (Below.mono hb_w4 hsw_w3)
  have hsw_w4 := hbw_w4.size
  have hch_w4 : w3.heap.size ≤ w4.heap.size := hb_w4.size
  clear hk_aC_w3 hbw_w3 hsw_w3 hb_w4
  have ho_w0_w4 := hon
  clear hon
  obtain ⟨hx0_aC, hx1_aC, hx2_aC, hxl_aC⟩ := blk3 hk_aC_w4
  go_wp2_with fail
  clear hx0_aC hx1_aC hx2_aC hxl_aC
  have hk_aC_w5 := (blk_alloc hk_aC_w4 (.cells #[.int .i64 d1r, .int .i64 f1r, .slice A1_w0 ss1r.length c1_w0, .int .i64 d2r, .int .i64 f2r, .slice A2_w0 ss2r.length c2_w0, .slice A3_w0 str.length c3_w0, .slice A4_w0 Pr.length c4_w0, .slice A5_w0 ppr.length c5_w0, .int .i64 mr] 41))
  have hk_w0_w5 := (blk_new_at w4 (.cells #[.int .i64 d1r, .int .i64 f1r, .slice A1_w0 ss1r.length c1_w0, .int .i64 d2r, .int .i64 f2r, .slice A2_w0 ss2r.length c2_w0, .slice A3_w0 str.length c3_w0, .slice A4_w0 Pr.length c4_w0, .slice A5_w0 ppr.length c5_w0, .int .i64 mr] 41) (k := w4.heap.size) (by simp))
  have ho_w0_w5 := (ho_w0_w4.alloc (.cells #[.int .i64 d1r, .int .i64 f1r, .slice A1_w0 ss1r.length c1_w0, .int .i64 d2r, .int .i64 f2r, .slice A2_w0 ss2r.length c2_w0, .slice A3_w0 str.length c3_w0, .slice A4_w0 Pr.length c4_w0, .slice A5_w0 ppr.length c5_w0, .int .i64 mr] 41))
  have hbw_w5 : Below w.heap.size w (w4.alloc (.cells #[.int .i64 d1r, .int .i64 f1r, .slice A1_w0 ss1r.length c1_w0, .int .i64 d2r, .int .i64 f2r, .slice A2_w0 ss2r.length c2_w0, .slice A3_w0 str.length c3_w0, .slice A4_w0 Pr.length c4_w0, .slice A5_w0 ppr.length c5_w0, .int .i64 mr] 41)) := bel
  have hsw_w5 := hbw_w5.size
  have hch_w5 : w4.heap.size + 1 ≤ (w4.alloc (.cells #[.int .i64 d1r, .int .i64 f1r, .slice A1_w0 ss1r.length c1_w0, .int .i64 d2r, .int .i64 f2r, .slice A2_w0 ss2r.length c2_w0, .slice A3_w0 str.length c3_w0, .slice A4_w0 Pr.length c4_w0, .slice A5_w0 ppr.length c5_w0, .int .i64 mr] 41)).heap.size := (by simp; try omega)
  generalize (w4.alloc (.cells #[.int .i64 d1r, .int .i64 f1r, .slice A1_w0 ss1r.length c1_w0, .int .i64 d2r, .int .i64 f2r, .slice A2_w0 ss2r.length c2_w0, .slice A3_w0 str.length c3_w0, .slice A4_w0 Pr.length c4_w0, .slice A5_w0 ppr.length c5_w0, .int .i64 mr] 41)) = w5 at *
  clear hk_aC_w4 ho_w0_w4 hbw_w4 hsw_w4
  refine (u_toCard dC fC w.heap.size AC nC cC ssC _ (hSC.below hbw_w5) hsw_w5).mono ?_
  rintro e w6 ⟨A_x0, c_x0, rfl, hon, hb_w6⟩
  have hk_aC_w6 := blk_next hk_aC_w5 hb_w6
  have hk_w0_w6 := blk_next hk_w0_w5 hb_w6
  have ho_w0_w6 := ho_w0_w5.below hb_w6
  have hbw_w6 : Below w.heap.size w w6 := hbw_w5.trans (Below.mono hb_w6 hsw_w5)
  have hsw_w6 := hbw_w6.size
  have hch_w6 : w5.heap.size ≤ w6.heap.size := hb_w6.size
  clear hk_aC_w5 hk_w0_w5 ho_w0_w5 hbw_w5 hsw_w5 hb_w6
  have ho_x0_w6 := hon
  clear hon
  go_wp2_with fail
  have hk_aC_w7 := (blk_alloc hk_aC_w6 (.cells #[.int .i64 dC, .int .i64 fC, .slice A_x0 ssC.length c_x0] 34))
  have hk_w0_w7 := (blk_alloc hk_w0_w6 (.cells #[.int .i64 dC, .int .i64 fC, .slice A_x0 ssC.length c_x0] 34))
  have hk_x0_w7 := (blk_new_at w6 (.cells #[.int .i64 dC, .int .i64 fC, .slice A_x0 ssC.length c_x0] 34) (k := w6.heap.size) (by simp))
  have ho_w0_w7 := (ho_w0_w6.alloc (.cells #[.int .i64 dC, .int .i64 fC, .slice A_x0 ssC.length c_x0] 34))
  have ho_x0_w7 := (ho_x0_w6.alloc (.cells #[.int .i64 dC, .int .i64 fC, .slice A_x0 ssC.length c_x0] 34))
  have hbw_w7 : Below w.heap.size w (w6.alloc (.cells #[.int .i64 dC, .int .i64 fC, .slice A_x0 ssC.length c_x0] 34)) := bel
  have hsw_w7 := hbw_w7.size
  have hch_w7 : w6.heap.size + 1 ≤ (w6.alloc (.cells #[.int .i64 dC, .int .i64 fC, .slice A_x0 ssC.length c_x0] 34)).heap.size := (by simp; try omega)
  generalize (w6.alloc (.cells #[.int .i64 dC, .int .i64 fC, .slice A_x0 ssC.length c_x0] 34)) = w7 at *
  clear hk_aC_w6 hk_w0_w6 ho_w0_w6 ho_x0_w6 hbw_w6 hsw_w6
  refine (unhide HIMPL _ _ _ (ho_x0_w7.rd ((unhide HOKC).more (by omega)).1 (unhide HOKC).2) (own_cap ho_x0_w7.row)).mono ?_
  rintro e w8 ⟨A1_g0, c1_g0, A2_g0, c2_g0, A3_g0, c3_g0, A4_g0, c4_g0, A5_g0, c5_g0, rfl, hon, hb_w8⟩
  have hk_aC_w8 := blk_next hk_aC_w7 hb_w8
  have hk_w0_w8 := blk_next hk_w0_w7 hb_w8
  have hk_x0_w8 := blk_next hk_x0_w7 hb_w8
  have ho_w0_w8 := ho_w0_w7.below hb_w8
  have ho_x0_w8 := ho_x0_w7.below hb_w8
  have hbw_w8 : Below w.heap.size w w8 := hbw_w7.trans (Below.mono hb_w8 hsw_w7)
  have hsw_w8 := hbw_w8.size
  have hch_w8 : w7.heap.size ≤ w8.heap.size := hb_w8.size
  clear hk_aC_w7 hk_w0_w7 hk_x0_w7 ho_w0_w7 ho_x0_w7 hbw_w7 hsw_w7 hb_w8
  have ho_g0_w8 := hon
  clear hon
  obtain ⟨hx0_w0, hx1_w0, hx2_w0, hx3_w0, hx4_w0, hx5_w0, hx6_w0, hx7_w0, hx8_w0, hx9_w0, hxl_w0⟩ := blk10 hk_w0_w8
  go_wp2_with fail
  clear hx0_w0 hx1_w0 hx2_w0 hx3_w0 hx4_w0 hx5_w0 hx6_w0 hx7_w0 hx8_w0 hx9_w0 hxl_w0
  have hk_aC_w9 := (blk_alloc hk_aC_w8 (.cells #[.int .i64 d1r, .int .i64 f1r, .slice A1_g0 ss1r.length c1_g0, .int .i64 d2r, .int .i64 f2r, .slice A2_g0 ss2r.length c2_g0, .slice A3_g0 str.length c3_g0, .slice A4_g0 Pr.length c4_g0, .slice A5_g0 ppr.length c5_g0, .int .i64 mr] 41))
  have hk_w0_w9 := (blk_alloc hk_w0_w8 (.cells #[.int .i64 d1r, .int .i64 f1r, .slice A1_g0 ss1r.length c1_g0, .int .i64 d2r, .int .i64 f2r, .slice A2_g0 ss2r.length c2_g0, .slice A3_g0 str.length c3_g0, .slice A4_g0 Pr.length c4_g0, .slice A5_g0 ppr.length c5_g0, .int .i64 mr] 41))
  have hk_x0_w9 := (blk_alloc hk_x0_w8 (.cells #[.int .i64 d1r, .int .i64 f1r, .slice A1_g0 ss1r.length c1_g0, .int .i64 d2r, .int .i64 f2r, .slice A2_g0 ss2r.length c2_g0, .slice A3_g0 str.length c3_g0, .slice A4_g0 Pr.length c4_g0, .slice A5_g0 ppr.length c5_g0, .int .i64 mr] 41))
  have hk_g0_w9 := (blk_new_at w8 (.cells #[.int .i64 d1r, .int .i64 f1r, .slice A1_g0 ss1r.length c1_g0, .int .i64 d2r, .int .i64 f2r, .slice A2_g0 ss2r.length c2_g0, .slice A3_g0 str.length c3_g0, .slice A4_g0 Pr.length c4_g0, .slice A5_g0 ppr.length c5_g0, .int .i64 mr] 41) (k := w8.heap.size) (by simp))
  have ho_w0_w9 := (ho_w0_w8.alloc (.cells #[.int .i64 d1r, .int .i64 f1r, .slice A1_g0 ss1r.length c1_g0, .int .i64 d2r, .int .i64 f2r, .slice A2_g0 ss2r.length c2_g0, .slice A3_g0 str.length c3_g0, .slice A4_g0 Pr.length c4_g0, .slice A5_g0 ppr.length c5_g0, .int .i64 mr] 41))
  have ho_x0_w9 := (ho_x0_w8.alloc (.cells #[.int .i64 d1r, .int .i64 f1r, .slice A1_g0 ss1r.length c1_g0, .int .i64 d2r, .int .i64 f2r, .slice A2_g0 ss2r.length c2_g0, .slice A3_g0 str.length c3_g0, .slice A4_g0 Pr.length c4_g0, .slice A5_g0 ppr.length c5_g0, .int .i64 mr] 41))
  have ho_g0_w9 := (ho_g0_w8.alloc (.cells #[.int .i64 d1r, .int .i64 f1r, .slice A1_g0 ss1r.length c1_g0, .int .i64 d2r, .int .i64 f2r, .slice A2_g0 ss2r.length c2_g0, .slice A3_g0 str.length c3_g0, .slice A4_g0 Pr.length c4_g0, .slice A5_g0 ppr.length c5_g0, .int .i64 mr] 41))
  have hbw_w9 : Below w.heap.size w (w8.alloc (.cells #[.int .i64 d1r, .int .i64 f1r, .slice A1_g0 ss1r.length c1_g0, .int .i64 d2r, .int .i64 f2r, .slice A2_g0 ss2r.length c2_g0, .slice A3_g0 str.length c3_g0, .slice A4_g0 Pr.length c4_g0, .slice A5_g0 ppr.length c5_g0, .int .i64 mr] 41)) := bel
  have hsw_w9 := hbw_w9.size
  have hch_w9 : w8.heap.size + 1 ≤ (w8.alloc (.cells #[.int .i64 d1r, .int .i64 f1r, .slice A1_g0 ss1r.length c1_g0, .int .i64 d2r, .int .i64 f2r, .slice A2_g0 ss2r.length c2_g0, .slice A3_g0 str.length c3_g0, .slice A4_g0 Pr.length c4_g0, .slice A5_g0 ppr.length c5_g0, .int .i64 mr] 41)).heap.size := (by simp; try omega)
  generalize (w8.alloc (.cells #[.int .i64 d1r, .int .i64 f1r, .slice A1_g0 ss1r.length c1_g0, .int .i64 d2r, .int .i64 f2r, .slice A2_g0 ss2r.length c2_g0, .slice A3_g0 str.length c3_g0, .slice A4_g0 Pr.length c4_g0, .slice A5_g0 ppr.length c5_g0, .int .i64 mr] 41)) = w9 at *
  clear hk_aC_w8 hk_w0_w8 hk_x0_w8 ho_w0_w8 ho_x0_w8 ho_g0_w8 hbw_w8 hsw_w8
  refine (u_eqWorkshop d1r f1r ss1r d2r f2r ss2r str Pr ppr mr _ _ _ _ _ _ _ _ _ _ _ _ _ _ _ _ _ _ _ _ _ _ _ _ _ ho_g0_w9 ho_w0_w9 ((unhide HOKR).more (by omega))).mono ?_
  rintro e w10 ⟨rfl, hb_w10⟩
  have hk_aC_w10 := blk_next hk_aC_w9 hb_w10
  have hk_w0_w10 := blk_next hk_w0_w9 hb_w10
  have hk_x0_w10 := blk_next hk_x0_w9 hb_w10
  have hk_g0_w10 := blk_next hk_g0_w9 hb_w10
  have ho_w0_w10 := ho_w0_w9.below hb_w10
  have ho_x0_w10 := ho_x0_w9.below hb_w10
  have ho_g0_w10 := ho_g0_w9.below hb_w10
  have hbw_w10 : Below w.heap.size w w10 := hbw_w9.trans (Below.mono hb_w10 hsw_w9)
  have hsw_w10 := hbw_w10.size
  have hch_w10 : w9.heap.size ≤ w10.heap.size := hb_w10.size
  clear hk_aC_w9 hk_w0_w9 hk_x0_w9 hk_g0_w9 ho_w0_w9 ho_x0_w9 ho_g0_w9 hbw_w9 hsw_w9 hb_w10
  obtain ⟨hx0_aC, hx1_aC, hx2_aC, hxl_aC⟩ := blk3 hk_aC_w10
  obtain ⟨hx0_x0, hx1_x0, hx2_x0, hxl_x0⟩ := blk3 hk_x0_w10
  go_wp2_with fail
  have hS_c := hSC.below hbw_w10
  go_region_held3 (fun W => (∀ b o, b < w10.heap.size → W.cell? ⟨b, o, none⟩ = (w10).cell? ⟨b, o, none⟩) ∧ (∀ b o, b < w10.heap.size → W.frozen? ⟨b, o, none⟩ = (w10).frozen? ⟨b, o, none⟩) ∧ Below (w10.heap.size) (w10) W) (exact keep_of bel) (first | (go_at_call 22; have hq := (‹_ ∧ _ ∧ Below _ _ _›).2.2; refine (u_toCard dC fC w.heap.size AC nC cC ssC _ ?_ ?_).mono ?_; exact hS_c.below (hq.mono hsw_w10); exact Nat.le_trans hsw_w10 hq.size; rintro e wa_w11 ⟨A_aw11, c_aw11, rfl, hoa, hba⟩) | (go_at_call 24; have hq2 := (‹_ ∧ _ ∧ Below _ _ _›).2.2; (first | refine (u_eqCard dC fC _ _ _ _ ssC _ _ _ _ _ (ho_x0_w10.below hq2) hoa ((unhide HOKC).more (by omega))).mono ?_ | refine (u_eqCard dC fC _ _ _ _ ssC _ _ _ _ _ (ho_x0_w10.below hq2) hoa.drew ((unhide HOKC).more (by omega))).mono ?_); rintro e w11 ⟨rfl, hbz⟩))
  have hb67 : Below w10.heap.size w10 wa_w11 := (Below.refl _ _).drew.trans hba
  have hz7 : w10.heap.size ≤ wa_w11.heap.size := hba.size
  have hb68 : Below w10.heap.size w10 w11 := hb67.trans (hbz.mono hz7)
  clear hS_c hoa hba hbz hb67 hz7
  clear hx0_aC hx1_aC hx2_aC hxl_aC hx0_x0 hx1_x0 hx2_x0 hxl_x0
  have hk_aC_w11 := blk_next hk_aC_w10 hb68
  have hk_w0_w11 := blk_next hk_w0_w10 hb68
  have hk_x0_w11 := blk_next hk_x0_w10 hb68
  have hk_g0_w11 := blk_next hk_g0_w10 hb68
  have ho_w0_w11 := ho_w0_w10.below hb68
  have ho_x0_w11 := ho_x0_w10.below hb68
  have ho_g0_w11 := ho_g0_w10.below hb68
  have hbw_w11 : Below w.heap.size w w11 := hbw_w10.trans (Below.mono hb68 hsw_w10)
  have hsw_w11 := hbw_w11.size
  have hch_w11 : w10.heap.size ≤ w11.heap.size := hb68.size
  clear hk_aC_w10 hk_w0_w10 hk_x0_w10 hk_g0_w10 ho_w0_w10 ho_x0_w10 ho_g0_w10 hbw_w10 hsw_w10 hb68
  obtain ⟨hx0_x0, hx1_x0, hx2_x0, hxl_x0⟩ := blk3 hk_x0_w11
  go_wp2_with fail
  refine (u_markCard dC fC _ _ ssC _ _ (1) _ ho_x0_w11 (by have hq1_HOKC := (unhide HOKC).1; omega) (by have hq1_HOKC := (unhide HOKC).1; omega) (by have hq1_HOKC := (unhide HOKC).1; omega)).mono ?_
  rintro e w12 ⟨rfl, hm_w12, hW_w12⟩
  clear hm_w12
  clear hx0_x0 hx1_x0 hx2_x0 hxl_x0
  have hk_aC_w12 := hW_w12.box hk_aC_w11
  have hk_w0_w12 := hW_w12.box hk_w0_w11
  have hk_x0_w12 := hW_w12.box hk_x0_w11
  have hk_g0_w12 := hW_w12.box hk_g0_w11
  have ho_w0_w12 := ho_w0_w11.within hW_w12 (by omega)
  have ho_g0_w12 := ho_g0_w11.within hW_w12 (by omega)
  have hbw_w12 : Below w.heap.size w w12 := hbw_w11.trans (hW_w12.below (by omega) (by omega))
  have hsw_w12 := hbw_w12.size
  have hch_w12 : w11.heap.size ≤ w12.heap.size := hW_w12.size
  clear hk_aC_w11 hk_w0_w11 hk_x0_w11 hk_g0_w11 ho_w0_w11 ho_x0_w11 ho_g0_w11 hbw_w11 hsw_w11 hW_w12
  obtain ⟨hx0_w0, hx1_w0, hx2_w0, hx3_w0, hx4_w0, hx5_w0, hx6_w0, hx7_w0, hx8_w0, hx9_w0, hxl_w0⟩ := blk10 hk_w0_w12
  obtain ⟨hx0_g0, hx1_g0, hx2_g0, hx3_g0, hx4_g0, hx5_g0, hx6_g0, hx7_g0, hx8_g0, hx9_g0, hxl_g0⟩ := blk10 hk_g0_w12
  go_wp2_with fail
  refine (u_eqWorkshop d1r f1r ss1r d2r f2r ss2r str Pr ppr mr _ _ _ _ _ _ _ _ _ _ _ _ _ _ _ _ _ _ _ _ _ _ _ _ _ ho_g0_w12 ho_w0_w12 ((unhide HOKR).more (by omega))).mono ?_
  rintro e w13 ⟨rfl, hb_w13⟩
  clear hx0_w0 hx1_w0 hx2_w0 hx3_w0 hx4_w0 hx5_w0 hx6_w0 hx7_w0 hx8_w0 hx9_w0 hxl_w0 hx0_g0 hx1_g0 hx2_g0 hx3_g0 hx4_g0 hx5_g0 hx6_g0 hx7_g0 hx8_g0 hx9_g0 hxl_g0
  have hk_aC_w13 := blk_next hk_aC_w12 hb_w13
  have hk_w0_w13 := blk_next hk_w0_w12 hb_w13
  have hk_x0_w13 := blk_next hk_x0_w12 hb_w13
  have hk_g0_w13 := blk_next hk_g0_w12 hb_w13
  have ho_w0_w13 := ho_w0_w12.below hb_w13
  have ho_g0_w13 := ho_g0_w12.below hb_w13
  have hbw_w13 : Below w.heap.size w w13 := hbw_w12.trans (Below.mono hb_w13 hsw_w12)
  have hsw_w13 := hbw_w13.size
  have hch_w13 : w12.heap.size ≤ w13.heap.size := hb_w13.size
  clear hk_aC_w12 hk_w0_w12 hk_x0_w12 hk_g0_w12 ho_w0_w12 ho_g0_w12 hbw_w12 hsw_w12 hb_w13
  obtain ⟨hx0_g0, hx1_g0, hx2_g0, hx3_g0, hx4_g0, hx5_g0, hx6_g0, hx7_g0, hx8_g0, hx9_g0, hxl_g0⟩ := blk10 hk_g0_w13
  go_wp2_with fail
  refine (u_markWorkshop d1r f1r ss1r d2r f2r ss2r str Pr ppr mr _ _ _ _ _ _ _ _ _ _ _ _ (1) _ ho_g0_w13 (by have hq1_HOKC := (unhide HOKC).1; have hq1_HOKR := (unhide HOKR).d.l1; have hq2_HOKR := (unhide HOKR).d.l2; have hq3_HOKR := (unhide HOKR).d.l3; simp only at hq1_HOKR hq2_HOKR hq3_HOKR; have hq4_HOKR := cntI_le (unhide HOKR).i; have hq5_HOKR := (unhide HOKR).p; omega) (by have hq1_HOKC := (unhide HOKC).1; have hq1_HOKR := (unhide HOKR).d.l1; have hq2_HOKR := (unhide HOKR).d.l2; have hq3_HOKR := (unhide HOKR).d.l3; simp only at hq1_HOKR hq2_HOKR hq3_HOKR; have hq4_HOKR := cntI_le (unhide HOKR).i; have hq5_HOKR := (unhide HOKR).p; omega) ((unhide HOKR).more (by omega))).mono ?_
  rintro e w14 ⟨rfl, hm_w14, hW_w14⟩
  clear hx0_g0 hx1_g0 hx2_g0 hx3_g0 hx4_g0 hx5_g0 hx6_g0 hx7_g0 hx8_g0 hx9_g0 hxl_g0
  have hk_aC_w14 := hW_w14.box hk_aC_w13
  have hk_w0_w14 := hW_w14.box hk_w0_w13
  have hk_x0_w14 := hW_w14.box hk_x0_w13
  have hk_g0_w14 := hW_w14.box hk_g0_w13
  have ho_w0_w14 := ho_w0_w13.within hW_w14 (by omega)
  have hbw_w14 : Below w.heap.size w w14 := hbw_w13.trans (hW_w14.below (by omega) (by omega))
  have hsw_w14 := hbw_w14.size
  have hch_w14 : w13.heap.size ≤ w14.heap.size := hW_w14.size
  clear hk_aC_w13 hk_w0_w13 hk_x0_w13 hk_g0_w13 ho_w0_w13 ho_g0_w13 hbw_w13 hsw_w13 hW_w14
  have ho_g0_w14 := hm_w14
  clear hm_w14
  obtain ⟨hx0_g0, hx1_g0, hx2_g0, hx3_g0, hx4_g0, hx5_g0, hx6_g0, hx7_g0, hx8_g0, hx9_g0, hxl_g0⟩ := blk10 hk_g0_w14
  go_wp2_with fail
  refine (u_heldWorkshop d1r f1r d2r f2r mr Pr _ _ _ _ _ _ _ _ _ _ _ _ _ _ _ _ (1) _ ho_g0_w14 (by have hq1_HOKR := (unhide HOKR).d.l1; have hq2_HOKR := (unhide HOKR).d.l2; have hq3_HOKR := (unhide HOKR).d.l3; simp only at hq1_HOKR hq2_HOKR hq3_HOKR; have hq4_HOKR := cntI_le (unhide HOKR).i; have hq5_HOKR := (unhide HOKR).p; omega) (by have hq1_HOKR := (unhide HOKR).d.l1; have hq2_HOKR := (unhide HOKR).d.l2; have hq3_HOKR := (unhide HOKR).d.l3; simp only at hq1_HOKR hq2_HOKR hq3_HOKR; have hq4_HOKR := cntI_le (unhide HOKR).i; have hq5_HOKR := (unhide HOKR).p; omega) (by have hq1_HOKR := (unhide HOKR).d.l1; have hq2_HOKR := (unhide HOKR).d.l2; have hq3_HOKR := (unhide HOKR).d.l3; simp only at hq1_HOKR hq2_HOKR hq3_HOKR; have hq4_HOKR := cntI_le (unhide HOKR).i; have hq5_HOKR := (unhide HOKR).p; omega) (by have hq1_HOKR := (unhide HOKR).d.l1; have hq2_HOKR := (unhide HOKR).d.l2; have hq3_HOKR := (unhide HOKR).d.l3; simp only at hq1_HOKR hq2_HOKR hq3_HOKR; have hq4_HOKR := cntI_le (unhide HOKR).i; have hq5_HOKR := (unhide HOKR).p; omega) (by have hq1_HOKR := (unhide HOKR).d.l1; have hq2_HOKR := (unhide HOKR).d.l2; have hq3_HOKR := (unhide HOKR).d.l3; simp only at hq1_HOKR hq2_HOKR hq3_HOKR; have hq4_HOKR := cntI_le (unhide HOKR).i; have hq5_HOKR := (unhide HOKR).p; omega) ((unhide HOKR).more (by omega)).i (by have hq1_HOKR := (unhide HOKR).d.l1; have hq2_HOKR := (unhide HOKR).d.l2; have hq3_HOKR := (unhide HOKR).d.l3; simp only at hq1_HOKR hq2_HOKR hq3_HOKR; have hq4_HOKR := cntI_le (unhide HOKR).i; have hq5_HOKR := (unhide HOKR).p; omega)).mono ?_
  rintro e w15 ⟨rfl, hb_w15⟩
  clear hx0_g0 hx1_g0 hx2_g0 hx3_g0 hx4_g0 hx5_g0 hx6_g0 hx7_g0 hx8_g0 hx9_g0 hxl_g0
  have hk_aC_w15 := blk_next hk_aC_w14 hb_w15
  have hk_w0_w15 := blk_next hk_w0_w14 hb_w15
  have hk_x0_w15 := blk_next hk_x0_w14 hb_w15
  have hk_g0_w15 := blk_next hk_g0_w14 hb_w15
  have ho_w0_w15 := ho_w0_w14.below hb_w15
  have ho_g0_w15 := ho_g0_w14.below hb_w15
  have hbw_w15 : Below w.heap.size w w15 := hbw_w14.trans (Below.mono hb_w15 hsw_w14)
  have hsw_w15 := hbw_w15.size
  have hch_w15 : w14.heap.size ≤ w15.heap.size := hb_w15.size
  clear hk_aC_w14 hk_w0_w14 hk_x0_w14 hk_g0_w14 ho_w0_w14 ho_g0_w14 hbw_w14 hsw_w14 hb_w15
  obtain ⟨hx0_aC, hx1_aC, hx2_aC, hxl_aC⟩ := blk3 hk_aC_w15
  go_wp2_with fail
  refine (u_toCard dC fC w.heap.size AC nC cC ssC _ (hSC.below hbw_w15) hsw_w15).mono ?_
  rintro e w16 ⟨A_t3_0, c_t3_0, rfl, hon, hb_w16⟩
  clear hx0_aC hx1_aC hx2_aC hxl_aC
  have hk_aC_w16 := blk_next hk_aC_w15 hb_w16
  have hk_w0_w16 := blk_next hk_w0_w15 hb_w16
  have hk_x0_w16 := blk_next hk_x0_w15 hb_w16
  have hk_g0_w16 := blk_next hk_g0_w15 hb_w16
  have ho_w0_w16 := ho_w0_w15.below hb_w16
  have ho_g0_w16 := ho_g0_w15.below hb_w16
  have hbw_w16 : Below w.heap.size w w16 := hbw_w15.trans (Below.mono hb_w16 hsw_w15)
  have hsw_w16 := hbw_w16.size
  have hch_w16 : w15.heap.size ≤ w16.heap.size := hb_w16.size
  clear hk_aC_w15 hk_w0_w15 hk_x0_w15 hk_g0_w15 ho_w0_w15 ho_g0_w15 hbw_w15 hsw_w15 hb_w16
  have ho_t3_0_w16 := hon
  clear hon
  obtain ⟨hx0_aC, hx1_aC, hx2_aC, hxl_aC⟩ := blk3 hk_aC_w16
  go_wp2_with fail
  refine (unhide HIMPL _ _ _ (ho_t3_0_w16.rd ((unhide HOKC).more (by omega)).1 (unhide HOKC).2) (own_cap ho_t3_0_w16.row)).mono ?_
  rintro e w17 ⟨A1_h0, c1_h0, A2_h0, c2_h0, A3_h0, c3_h0, A4_h0, c4_h0, A5_h0, c5_h0, rfl, hon, hb_w17⟩
  clear ho_t3_0_w16
  clear hx0_aC hx1_aC hx2_aC hxl_aC
  have hk_aC_w17 := blk_next hk_aC_w16 hb_w17
  have hk_w0_w17 := blk_next hk_w0_w16 hb_w17
  have hk_x0_w17 := blk_next hk_x0_w16 hb_w17
  have hk_g0_w17 := blk_next hk_g0_w16 hb_w17
  have ho_w0_w17 := ho_w0_w16.below hb_w17
  have ho_g0_w17 := ho_g0_w16.below hb_w17
  have hbw_w17 : Below w.heap.size w w17 := hbw_w16.trans (Below.mono hb_w17 hsw_w16)
  have hsw_w17 := hbw_w17.size
  have hch_w17 : w16.heap.size ≤ w17.heap.size := hb_w17.size
  clear hk_aC_w16 hk_w0_w16 hk_x0_w16 hk_g0_w16 ho_w0_w16 ho_g0_w16 hbw_w16 hsw_w16 hb_w17
  have ho_h0_w17 := hon
  clear hon
  obtain ⟨hx0_w0, hx1_w0, hx2_w0, hx3_w0, hx4_w0, hx5_w0, hx6_w0, hx7_w0, hx8_w0, hx9_w0, hxl_w0⟩ := blk10 hk_w0_w17
  go_wp2_with fail
  clear hx0_w0 hx1_w0 hx2_w0 hx3_w0 hx4_w0 hx5_w0 hx6_w0 hx7_w0 hx8_w0 hx9_w0 hxl_w0
  have hk_aC_w18 := (blk_alloc hk_aC_w17 (.cells #[.int .i64 d1r, .int .i64 f1r, .slice A1_h0 ss1r.length c1_h0, .int .i64 d2r, .int .i64 f2r, .slice A2_h0 ss2r.length c2_h0, .slice A3_h0 str.length c3_h0, .slice A4_h0 Pr.length c4_h0, .slice A5_h0 ppr.length c5_h0, .int .i64 mr] 41))
  have hk_w0_w18 := (blk_alloc hk_w0_w17 (.cells #[.int .i64 d1r, .int .i64 f1r, .slice A1_h0 ss1r.length c1_h0, .int .i64 d2r, .int .i64 f2r, .slice A2_h0 ss2r.length c2_h0, .slice A3_h0 str.length c3_h0, .slice A4_h0 Pr.length c4_h0, .slice A5_h0 ppr.length c5_h0, .int .i64 mr] 41))
  have hk_x0_w18 := (blk_alloc hk_x0_w17 (.cells #[.int .i64 d1r, .int .i64 f1r, .slice A1_h0 ss1r.length c1_h0, .int .i64 d2r, .int .i64 f2r, .slice A2_h0 ss2r.length c2_h0, .slice A3_h0 str.length c3_h0, .slice A4_h0 Pr.length c4_h0, .slice A5_h0 ppr.length c5_h0, .int .i64 mr] 41))
  have hk_g0_w18 := (blk_alloc hk_g0_w17 (.cells #[.int .i64 d1r, .int .i64 f1r, .slice A1_h0 ss1r.length c1_h0, .int .i64 d2r, .int .i64 f2r, .slice A2_h0 ss2r.length c2_h0, .slice A3_h0 str.length c3_h0, .slice A4_h0 Pr.length c4_h0, .slice A5_h0 ppr.length c5_h0, .int .i64 mr] 41))
  have hk_h0_w18 := (blk_new_at w17 (.cells #[.int .i64 d1r, .int .i64 f1r, .slice A1_h0 ss1r.length c1_h0, .int .i64 d2r, .int .i64 f2r, .slice A2_h0 ss2r.length c2_h0, .slice A3_h0 str.length c3_h0, .slice A4_h0 Pr.length c4_h0, .slice A5_h0 ppr.length c5_h0, .int .i64 mr] 41) (k := w17.heap.size) (by simp))
  have ho_w0_w18 := (ho_w0_w17.alloc (.cells #[.int .i64 d1r, .int .i64 f1r, .slice A1_h0 ss1r.length c1_h0, .int .i64 d2r, .int .i64 f2r, .slice A2_h0 ss2r.length c2_h0, .slice A3_h0 str.length c3_h0, .slice A4_h0 Pr.length c4_h0, .slice A5_h0 ppr.length c5_h0, .int .i64 mr] 41))
  have ho_g0_w18 := (ho_g0_w17.alloc (.cells #[.int .i64 d1r, .int .i64 f1r, .slice A1_h0 ss1r.length c1_h0, .int .i64 d2r, .int .i64 f2r, .slice A2_h0 ss2r.length c2_h0, .slice A3_h0 str.length c3_h0, .slice A4_h0 Pr.length c4_h0, .slice A5_h0 ppr.length c5_h0, .int .i64 mr] 41))
  have ho_h0_w18 := (ho_h0_w17.alloc (.cells #[.int .i64 d1r, .int .i64 f1r, .slice A1_h0 ss1r.length c1_h0, .int .i64 d2r, .int .i64 f2r, .slice A2_h0 ss2r.length c2_h0, .slice A3_h0 str.length c3_h0, .slice A4_h0 Pr.length c4_h0, .slice A5_h0 ppr.length c5_h0, .int .i64 mr] 41))
  have hbw_w18 : Below w.heap.size w (w17.alloc (.cells #[.int .i64 d1r, .int .i64 f1r, .slice A1_h0 ss1r.length c1_h0, .int .i64 d2r, .int .i64 f2r, .slice A2_h0 ss2r.length c2_h0, .slice A3_h0 str.length c3_h0, .slice A4_h0 Pr.length c4_h0, .slice A5_h0 ppr.length c5_h0, .int .i64 mr] 41)) := bel
  have hsw_w18 := hbw_w18.size
  have hch_w18 : w17.heap.size + 1 ≤ (w17.alloc (.cells #[.int .i64 d1r, .int .i64 f1r, .slice A1_h0 ss1r.length c1_h0, .int .i64 d2r, .int .i64 f2r, .slice A2_h0 ss2r.length c2_h0, .slice A3_h0 str.length c3_h0, .slice A4_h0 Pr.length c4_h0, .slice A5_h0 ppr.length c5_h0, .int .i64 mr] 41)).heap.size := (by simp; try omega)
  generalize (w17.alloc (.cells #[.int .i64 d1r, .int .i64 f1r, .slice A1_h0 ss1r.length c1_h0, .int .i64 d2r, .int .i64 f2r, .slice A2_h0 ss2r.length c2_h0, .slice A3_h0 str.length c3_h0, .slice A4_h0 Pr.length c4_h0, .slice A5_h0 ppr.length c5_h0, .int .i64 mr] 41)) = w18 at *
  clear hk_aC_w17 hk_w0_w17 hk_x0_w17 hk_g0_w17 ho_w0_w17 ho_g0_w17 ho_h0_w17 hbw_w17 hsw_w17
  refine (u_eqWorkshop d1r f1r ss1r d2r f2r ss2r str Pr ppr mr _ _ _ _ _ _ _ _ _ _ _ _ _ _ _ _ _ _ _ _ _ _ _ _ _ ho_h0_w18 ho_w0_w18 ((unhide HOKR).more (by omega))).mono ?_
  rintro e w19 ⟨rfl, hb_w19⟩
  have hk_aC_w19 := blk_next hk_aC_w18 hb_w19
  have hk_w0_w19 := blk_next hk_w0_w18 hb_w19
  have hk_x0_w19 := blk_next hk_x0_w18 hb_w19
  have hk_g0_w19 := blk_next hk_g0_w18 hb_w19
  have hk_h0_w19 := blk_next hk_h0_w18 hb_w19
  have ho_w0_w19 := ho_w0_w18.below hb_w19
  have ho_g0_w19 := ho_g0_w18.below hb_w19
  have ho_h0_w19 := ho_h0_w18.below hb_w19
  have hbw_w19 : Below w.heap.size w w19 := hbw_w18.trans (Below.mono hb_w19 hsw_w18)
  have hsw_w19 := hbw_w19.size
  have hch_w19 : w18.heap.size ≤ w19.heap.size := hb_w19.size
  clear hk_aC_w18 hk_w0_w18 hk_x0_w18 hk_g0_w18 hk_h0_w18 ho_w0_w18 ho_g0_w18 ho_h0_w18 hbw_w18 hsw_w18 hb_w19
  obtain ⟨hx0_g0, hx1_g0, hx2_g0, hx3_g0, hx4_g0, hx5_g0, hx6_g0, hx7_g0, hx8_g0, hx9_g0, hxl_g0⟩ := blk10 hk_g0_w19
  go_wp2_with fail
  refine (u_heldWorkshop d1r f1r d2r f2r mr Pr _ _ _ _ _ _ _ _ _ _ _ _ _ _ _ _ (1) _ ho_g0_w19 (by have hq1_HOKR := (unhide HOKR).d.l1; have hq2_HOKR := (unhide HOKR).d.l2; have hq3_HOKR := (unhide HOKR).d.l3; simp only at hq1_HOKR hq2_HOKR hq3_HOKR; have hq4_HOKR := cntI_le (unhide HOKR).i; have hq5_HOKR := (unhide HOKR).p; omega) (by have hq1_HOKR := (unhide HOKR).d.l1; have hq2_HOKR := (unhide HOKR).d.l2; have hq3_HOKR := (unhide HOKR).d.l3; simp only at hq1_HOKR hq2_HOKR hq3_HOKR; have hq4_HOKR := cntI_le (unhide HOKR).i; have hq5_HOKR := (unhide HOKR).p; omega) (by have hq1_HOKR := (unhide HOKR).d.l1; have hq2_HOKR := (unhide HOKR).d.l2; have hq3_HOKR := (unhide HOKR).d.l3; simp only at hq1_HOKR hq2_HOKR hq3_HOKR; have hq4_HOKR := cntI_le (unhide HOKR).i; have hq5_HOKR := (unhide HOKR).p; omega) (by have hq1_HOKR := (unhide HOKR).d.l1; have hq2_HOKR := (unhide HOKR).d.l2; have hq3_HOKR := (unhide HOKR).d.l3; simp only at hq1_HOKR hq2_HOKR hq3_HOKR; have hq4_HOKR := cntI_le (unhide HOKR).i; have hq5_HOKR := (unhide HOKR).p; omega) (by have hq1_HOKR := (unhide HOKR).d.l1; have hq2_HOKR := (unhide HOKR).d.l2; have hq3_HOKR := (unhide HOKR).d.l3; simp only at hq1_HOKR hq2_HOKR hq3_HOKR; have hq4_HOKR := cntI_le (unhide HOKR).i; have hq5_HOKR := (unhide HOKR).p; omega) ((unhide HOKR).more (by omega)).i (by have hq1_HOKR := (unhide HOKR).d.l1; have hq2_HOKR := (unhide HOKR).d.l2; have hq3_HOKR := (unhide HOKR).d.l3; simp only at hq1_HOKR hq2_HOKR hq3_HOKR; have hq4_HOKR := cntI_le (unhide HOKR).i; have hq5_HOKR := (unhide HOKR).p; omega)).mono ?_
  rintro e w20 ⟨rfl, hb_w20⟩
  clear hx0_g0 hx1_g0 hx2_g0 hx3_g0 hx4_g0 hx5_g0 hx6_g0 hx7_g0 hx8_g0 hx9_g0 hxl_g0
  have hk_aC_w20 := blk_next hk_aC_w19 hb_w20
  have hk_w0_w20 := blk_next hk_w0_w19 hb_w20
  have hk_x0_w20 := blk_next hk_x0_w19 hb_w20
  have hk_g0_w20 := blk_next hk_g0_w19 hb_w20
  have hk_h0_w20 := blk_next hk_h0_w19 hb_w20
  have ho_w0_w20 := ho_w0_w19.below hb_w20
  have ho_g0_w20 := ho_g0_w19.below hb_w20
  have ho_h0_w20 := ho_h0_w19.below hb_w20
  have hbw_w20 : Below w.heap.size w w20 := hbw_w19.trans (Below.mono hb_w20 hsw_w19)
  have hsw_w20 := hbw_w20.size
  have hch_w20 : w19.heap.size ≤ w20.heap.size := hb_w20.size
  clear hk_aC_w19 hk_w0_w19 hk_x0_w19 hk_g0_w19 hk_h0_w19 ho_w0_w19 ho_g0_w19 ho_h0_w19 hbw_w19 hsw_w19 hb_w20
  go_wp2
  go_ret
  exact ⟨rfl, hbw_w20⟩
end Go.Proofs.YtdddglihomchfaaGreat.fnExactOpenWorkshop
