/- The walk of FnExactKeepCard, for arguments that are not too large. -/
import Derived.Deep.DeepCutAuto
import Derived.Deep.RegionHeld3
import Derived.Deep.Slices
import Derived.Lib.SmallJoins
import Derived.SliceStrings
import Derived.Test.YtdddglihomchfaaGreatRows
import Derived.Test.YtdddglihomchfaaGreatQCWork5KeepCards
import Derived.Test.YtdddglihomchfaaGreatQCWork5KeepCardi
import Derived.Test.YtdddglihomchfaaGreatQCm
import Derived.Test.YtdddglihomchfaaGreatQCb
namespace Go.Proofs.YtdddglihomchfaaGreat.fnExactKeepCard
open Go.ChangeShapes Go.WideShapes Go.ChangeAt Go.RowKit Go.Joins Go.WideMaps Go.WideElems
open Go.ChangeMaps (open_string shut_string)
set_option linter.unusedVariables false
set_option maxRecDepth 100000 in
set_option maxHeartbeats 16000000 in
theorem walkKeepCard (d1 f1 : Int) (ss1 : List ByteArray) (d2 f2 : Int) (ss2 : List ByteArray) (st : List PStep) (P : List PItem) (pp : List PPaper) (m : Int) (A1 A2 A3 A4 A5 : Option Addr) (c1 c2 c3 c4 c5 : Nat) (nm : ByteArray) (w : World) (hSW : RdWork0 w w.heap.size A1 A2 A3 A4 A5 (PDraft.mk d1 f1 ss1 d2 f2 ss2 st) P pp) (hnW : OkWork (PDraft.mk d1 f1 ss1 d2 f2 ss2 st) P pp 1048576) (hss_nm : nm.size ≤ 1048576) (hz1 : 0 ≤ szW (PDraft.mk d1 f1 ss1 d2 f2 ss2 st) P pp (1048576)) :
    Calls Tryz.prog 11 #[.agg #[.int .i64 d1, .int .i64 f1, .slice A1 ss1.length c1, .int .i64 d2, .int .i64 f2, .slice A2 ss2.length c2, .slice A3 st.length c3, .slice A4 P.length c4, .slice A5 pp.length c5, .int .i64 m], .string nm] w fun e w' => e = .returned (.bool true) ∧ Below w.heap.size w w' := by
  have hokW : OkWork (PDraft.mk d1 f1 ss1 d2 f2 ss2 st) P pp 1048576 := hnW
  have hrok : OkWork (PDraft.mk ((keepRes (PWork.mk (PDraft.mk d1 f1 ss1 d2 f2 ss2 st) P pp m) nm).1.D.d1) ((keepRes (PWork.mk (PDraft.mk d1 f1 ss1 d2 f2 ss2 st) P pp m) nm).1.D.f1) ((keepRes (PWork.mk (PDraft.mk d1 f1 ss1 d2 f2 ss2 st) P pp m) nm).1.D.ss1) ((keepRes (PWork.mk (PDraft.mk d1 f1 ss1 d2 f2 ss2 st) P pp m) nm).1.D.d2) ((keepRes (PWork.mk (PDraft.mk d1 f1 ss1 d2 f2 ss2 st) P pp m) nm).1.D.f2) ((keepRes (PWork.mk (PDraft.mk d1 f1 ss1 d2 f2 ss2 st) P pp m) nm).1.D.ss2) ((keepRes (PWork.mk (PDraft.mk d1 f1 ss1 d2 f2 ss2 st) P pp m) nm).1.D.st)) ((keepRes (PWork.mk (PDraft.mk d1 f1 ss1 d2 f2 ss2 st) P pp m) nm).1.P) ((keepRes (PWork.mk (PDraft.mk d1 f1 ss1 d2 f2 ss2 st) P pp m) nm).1.pp) 1048576 := by
    exact keepRes_ok (PWork.mk (PDraft.mk d1 f1 ss1 d2 f2 ss2 st) P pp m) nm hokW (by omega)
  have hspec := fun (W : World) (A1_0W : Option Addr) (c1_0W : Nat) (A2_0W : Option Addr) (c2_0W : Nat) (A3_0W : Option Addr) (c3_0W : Nat) (A4_0W : Option Addr) (c4_0W : Nat) (A5_0W : Option Addr) (c5_0W : Nat) (h_0W : RdWork W W.heap.size A1_0W A2_0W A3_0W A4_0W c4_0W A5_0W (PDraft.mk d1 f1 ss1 d2 f2 ss2 st) P pp) => s_KeepCard d1 f1 ss1 d2 f2 ss2 st P pp m nm W.heap.size A1_0W A2_0W A3_0W A4_0W A5_0W c1_0W c2_0W c3_0W c4_0W c5_0W W h_0W (Nat.le_refl _) hokW (by omega)
  have himpl := fun (W : World) (A1_0W : Option Addr) (c1_0W : Nat) (A2_0W : Option Addr) (c2_0W : Nat) (A3_0W : Option Addr) (c3_0W : Nat) (A4_0W : Option Addr) (c4_0W : Nat) (A5_0W : Option Addr) (c5_0W : Nat) (h_0W : RdWork W W.heap.size A1_0W A2_0W A3_0W A4_0W c4_0W A5_0W (PDraft.mk d1 f1 ss1 d2 f2 ss2 st) P pp) => i_KeepCard d1 f1 ss1 d2 f2 ss2 st P pp m nm W.heap.size A1_0W A2_0W A3_0W A4_0W A5_0W c1_0W c2_0W c3_0W c4_0W c5_0W W h_0W (Nat.le_refl _) hokW (by omega)
  generalize hgen0 : ((keepRes (PWork.mk (PDraft.mk d1 f1 ss1 d2 f2 ss2 st) P pp m) nm).1.D.d1) = d1r at hspec himpl hrok
  generalize hgen1 : ((keepRes (PWork.mk (PDraft.mk d1 f1 ss1 d2 f2 ss2 st) P pp m) nm).1.D.f1) = f1r at hspec himpl hrok
  generalize hgen2 : ((keepRes (PWork.mk (PDraft.mk d1 f1 ss1 d2 f2 ss2 st) P pp m) nm).1.D.ss1) = ss1r at hspec himpl hrok
  generalize hgen3 : ((keepRes (PWork.mk (PDraft.mk d1 f1 ss1 d2 f2 ss2 st) P pp m) nm).1.D.d2) = d2r at hspec himpl hrok
  generalize hgen4 : ((keepRes (PWork.mk (PDraft.mk d1 f1 ss1 d2 f2 ss2 st) P pp m) nm).1.D.f2) = f2r at hspec himpl hrok
  generalize hgen5 : ((keepRes (PWork.mk (PDraft.mk d1 f1 ss1 d2 f2 ss2 st) P pp m) nm).1.D.ss2) = ss2r at hspec himpl hrok
  generalize hgen6 : ((keepRes (PWork.mk (PDraft.mk d1 f1 ss1 d2 f2 ss2 st) P pp m) nm).1.D.st) = str at hspec himpl hrok
  generalize hgen7 : ((keepRes (PWork.mk (PDraft.mk d1 f1 ss1 d2 f2 ss2 st) P pp m) nm).1.P) = Pr at hspec himpl hrok
  generalize hgen8 : ((keepRes (PWork.mk (PDraft.mk d1 f1 ss1 d2 f2 ss2 st) P pp m) nm).1.pp) = ppr at hspec himpl hrok
  generalize hgen9 : ((keepRes (PWork.mk (PDraft.mk d1 f1 ss1 d2 f2 ss2 st) P pp m) nm).1.m) = mr at hspec himpl hrok
  generalize hgen10 : ((keepRes (PWork.mk (PDraft.mk d1 f1 ss1 d2 f2 ss2 st) P pp m) nm).2) = rb at hspec himpl hrok
  clear hgen0 hgen1 hgen2 hgen3 hgen4 hgen5 hgen6 hgen7 hgen8 hgen9 hgen10
  have HSPEC := hide hspec
  have HIMPL := hide himpl
  clear hspec himpl
  have HOKW := hide hokW
  clear hokW
  have HOKR := hide hrok
  clear hrok
  go_enter Tryz.func11, Tryz.ntmps11
  go_wp2_with fail
  have hk_aW_w1 := (blk_new_at w (.cells #[.int .i64 d1, .int .i64 f1, .slice A1 ss1.length c1, .int .i64 d2, .int .i64 f2, .slice A2 ss2.length c2, .slice A3 st.length c3, .slice A4 P.length c4, .slice A5 pp.length c5, .int .i64 m] 31) (k := w.heap.size) (by simp))
  have hbw_w1 : Below w.heap.size w (w.alloc (.cells #[.int .i64 d1, .int .i64 f1, .slice A1 ss1.length c1, .int .i64 d2, .int .i64 f2, .slice A2 ss2.length c2, .slice A3 st.length c3, .slice A4 P.length c4, .slice A5 pp.length c5, .int .i64 m] 31)) := bel
  have hsw_w1 := hbw_w1.size
  have hch_w1 : w.heap.size + 1 ≤ (w.alloc (.cells #[.int .i64 d1, .int .i64 f1, .slice A1 ss1.length c1, .int .i64 d2, .int .i64 f2, .slice A2 ss2.length c2, .slice A3 st.length c3, .slice A4 P.length c4, .slice A5 pp.length c5, .int .i64 m] 31)).heap.size := (by simp; try omega)
  generalize (w.alloc (.cells #[.int .i64 d1, .int .i64 f1, .slice A1 ss1.length c1, .int .i64 d2, .int .i64 f2, .slice A2 ss2.length c2, .slice A3 st.length c3, .slice A4 P.length c4, .slice A5 pp.length c5, .int .i64 m] 31)) = w1 at *
  refine (l_szWorkshop d1 f1 ss1 d2 f2 ss2 st P pp m w.heap.size A1 A2 A3 A4 A5 c1 c2 c3 c4 c5 (1048576) _ hsw_w1 (hSW.raw.below hbw_w1) (by omega) (by omega)).mono ?_
  rintro e w2 ⟨rfl, hb_w2⟩
  have hk_aW_w2 := blk_next hk_aW_w1 hb_w2
  have hbw_w2 : Below w.heap.size w w2 := hbw_w1.trans (Below.mono hb_w2 hsw_w1)
  have hsw_w2 := hbw_w2.size
  have hch_w2 : w1.heap.size ≤ w2.heap.size := hb_w2.size
  clear hk_aW_w1 hbw_w1 hsw_w1 hb_w2
  have hub_w2 : szW (PDraft.mk d1 f1 ss1 d2 f2 ss2 st) P pp (1048576) ≤ 1048576 := szW_ub _ _ _ _ (by omega)
  obtain ⟨hx0_aW, hx1_aW, hx2_aW, hx3_aW, hx4_aW, hx5_aW, hx6_aW, hx7_aW, hx8_aW, hx9_aW, hxl_aW⟩ := blk10 hk_aW_w2
  go_wp2_with fail
  refine (u_toWorkshop d1 f1 ss1 d2 f2 ss2 st P pp m w.heap.size A1 A2 A3 A4 A5 c1 c2 c3 c4 c5 _ (hSW.below hbw_w2) hsw_w2).mono ?_
  rintro e w3 ⟨A1_t1_0, c1_t1_0, A2_t1_0, c2_t1_0, A3_t1_0, c3_t1_0, A4_t1_0, c4_t1_0, A5_t1_0, c5_t1_0, rfl, hon, hb_w3⟩
  clear hx0_aW hx1_aW hx2_aW hx3_aW hx4_aW hx5_aW hx6_aW hx7_aW hx8_aW hx9_aW hxl_aW
  have hk_aW_w3 := blk_next hk_aW_w2 hb_w3
  have hbw_w3 : Below w.heap.size w w3 := hbw_w2.trans (Below.mono hb_w3 hsw_w2)
  have hsw_w3 := hbw_w3.size
  have hch_w3 : w2.heap.size ≤ w3.heap.size := hb_w3.size
  clear hk_aW_w2 hbw_w2 hsw_w2 hb_w3
  have ho_t1_0_w3 := hon
  clear hon
  obtain ⟨hx0_aW, hx1_aW, hx2_aW, hx3_aW, hx4_aW, hx5_aW, hx6_aW, hx7_aW, hx8_aW, hx9_aW, hxl_aW⟩ := blk10 hk_aW_w3
  go_wp2_with fail
  refine (unhide HSPEC _ _ _ _ _ _ _ _ _ _ _ (ho_t1_0_w3.rd ((unhide HOKW).more (by omega)))).mono ?_
  rintro e w4 ⟨A1_w0, c1_w0, A2_w0, c2_w0, A3_w0, c3_w0, A4_w0, c4_w0, A5_w0, c5_w0, rfl, hon, hb_w4⟩
  clear ho_t1_0_w3
  clear hx0_aW hx1_aW hx2_aW hx3_aW hx4_aW hx5_aW hx6_aW hx7_aW hx8_aW hx9_aW hxl_aW
  have hk_aW_w4 := blk_next hk_aW_w3 hb_w4
  have hbw_w4 : Below w.heap.size w w4 := hbw_w3.trans (Below.mono hb_w4 hsw_w3)
  have hsw_w4 := hbw_w4.size
  have hch_w4 : w3.heap.size ≤ w4.heap.size := hb_w4.size
  clear hk_aW_w3 hbw_w3 hsw_w3 hb_w4
  have ho_w0_w4 := hon
  clear hon
  obtain ⟨hx0_aW, hx1_aW, hx2_aW, hx3_aW, hx4_aW, hx5_aW, hx6_aW, hx7_aW, hx8_aW, hx9_aW, hxl_aW⟩ := blk10 hk_aW_w4
  go_wp2_with fail
  clear hx0_aW hx1_aW hx2_aW hx3_aW hx4_aW hx5_aW hx6_aW hx7_aW hx8_aW hx9_aW hxl_aW
  have hk_aW_w5 := (blk_alloc hk_aW_w4 (.cells #[.int .i64 d1r, .int .i64 f1r, .slice A1_w0 ss1r.length c1_w0, .int .i64 d2r, .int .i64 f2r, .slice A2_w0 ss2r.length c2_w0, .slice A3_w0 str.length c3_w0, .slice A4_w0 Pr.length c4_w0, .slice A5_w0 ppr.length c5_w0, .int .i64 mr] 41))
  have hk_w0_w5 := (blk_new_at w4 (.cells #[.int .i64 d1r, .int .i64 f1r, .slice A1_w0 ss1r.length c1_w0, .int .i64 d2r, .int .i64 f2r, .slice A2_w0 ss2r.length c2_w0, .slice A3_w0 str.length c3_w0, .slice A4_w0 Pr.length c4_w0, .slice A5_w0 ppr.length c5_w0, .int .i64 mr] 41) (k := w4.heap.size) (by simp))
  have ho_w0_w5 := (ho_w0_w4.alloc (.cells #[.int .i64 d1r, .int .i64 f1r, .slice A1_w0 ss1r.length c1_w0, .int .i64 d2r, .int .i64 f2r, .slice A2_w0 ss2r.length c2_w0, .slice A3_w0 str.length c3_w0, .slice A4_w0 Pr.length c4_w0, .slice A5_w0 ppr.length c5_w0, .int .i64 mr] 41))
  have hbw_w5 : Below w.heap.size w (w4.alloc (.cells #[.int .i64 d1r, .int .i64 f1r, .slice A1_w0 ss1r.length c1_w0, .int .i64 d2r, .int .i64 f2r, .slice A2_w0 ss2r.length c2_w0, .slice A3_w0 str.length c3_w0, .slice A4_w0 Pr.length c4_w0, .slice A5_w0 ppr.length c5_w0, .int .i64 mr] 41)) := bel
  have hsw_w5 := hbw_w5.size
  have hch_w5 : w4.heap.size + 1 ≤ (w4.alloc (.cells #[.int .i64 d1r, .int .i64 f1r, .slice A1_w0 ss1r.length c1_w0, .int .i64 d2r, .int .i64 f2r, .slice A2_w0 ss2r.length c2_w0, .slice A3_w0 str.length c3_w0, .slice A4_w0 Pr.length c4_w0, .slice A5_w0 ppr.length c5_w0, .int .i64 mr] 41)).heap.size := (by simp; try omega)
  generalize (w4.alloc (.cells #[.int .i64 d1r, .int .i64 f1r, .slice A1_w0 ss1r.length c1_w0, .int .i64 d2r, .int .i64 f2r, .slice A2_w0 ss2r.length c2_w0, .slice A3_w0 str.length c3_w0, .slice A4_w0 Pr.length c4_w0, .slice A5_w0 ppr.length c5_w0, .int .i64 mr] 41)) = w5 at *
  clear hk_aW_w4 ho_w0_w4 hbw_w4 hsw_w4
  refine (u_toWorkshop d1 f1 ss1 d2 f2 ss2 st P pp m w.heap.size A1 A2 A3 A4 A5 c1 c2 c3 c4 c5 _ (hSW.below hbw_w5) hsw_w5).mono ?_
  rintro e w6 ⟨A1_x0, c1_x0, A2_x0, c2_x0, A3_x0, c3_x0, A4_x0, c4_x0, A5_x0, c5_x0, rfl, hon, hb_w6⟩
  have hk_aW_w6 := blk_next hk_aW_w5 hb_w6
  have hk_w0_w6 := blk_next hk_w0_w5 hb_w6
  have ho_w0_w6 := ho_w0_w5.below hb_w6
  have hbw_w6 : Below w.heap.size w w6 := hbw_w5.trans (Below.mono hb_w6 hsw_w5)
  have hsw_w6 := hbw_w6.size
  have hch_w6 : w5.heap.size ≤ w6.heap.size := hb_w6.size
  clear hk_aW_w5 hk_w0_w5 ho_w0_w5 hbw_w5 hsw_w5 hb_w6
  have ho_x0_w6 := hon
  clear hon
  go_wp2_with fail
  have hk_aW_w7 := (blk_alloc hk_aW_w6 (.cells #[.int .i64 d1, .int .i64 f1, .slice A1_x0 ss1.length c1_x0, .int .i64 d2, .int .i64 f2, .slice A2_x0 ss2.length c2_x0, .slice A3_x0 st.length c3_x0, .slice A4_x0 P.length c4_x0, .slice A5_x0 pp.length c5_x0, .int .i64 m] 41))
  have hk_w0_w7 := (blk_alloc hk_w0_w6 (.cells #[.int .i64 d1, .int .i64 f1, .slice A1_x0 ss1.length c1_x0, .int .i64 d2, .int .i64 f2, .slice A2_x0 ss2.length c2_x0, .slice A3_x0 st.length c3_x0, .slice A4_x0 P.length c4_x0, .slice A5_x0 pp.length c5_x0, .int .i64 m] 41))
  have hk_x0_w7 := (blk_new_at w6 (.cells #[.int .i64 d1, .int .i64 f1, .slice A1_x0 ss1.length c1_x0, .int .i64 d2, .int .i64 f2, .slice A2_x0 ss2.length c2_x0, .slice A3_x0 st.length c3_x0, .slice A4_x0 P.length c4_x0, .slice A5_x0 pp.length c5_x0, .int .i64 m] 41) (k := w6.heap.size) (by simp))
  have ho_w0_w7 := (ho_w0_w6.alloc (.cells #[.int .i64 d1, .int .i64 f1, .slice A1_x0 ss1.length c1_x0, .int .i64 d2, .int .i64 f2, .slice A2_x0 ss2.length c2_x0, .slice A3_x0 st.length c3_x0, .slice A4_x0 P.length c4_x0, .slice A5_x0 pp.length c5_x0, .int .i64 m] 41))
  have ho_x0_w7 := (ho_x0_w6.alloc (.cells #[.int .i64 d1, .int .i64 f1, .slice A1_x0 ss1.length c1_x0, .int .i64 d2, .int .i64 f2, .slice A2_x0 ss2.length c2_x0, .slice A3_x0 st.length c3_x0, .slice A4_x0 P.length c4_x0, .slice A5_x0 pp.length c5_x0, .int .i64 m] 41))
  have hbw_w7 : Below w.heap.size w (w6.alloc (.cells #[.int .i64 d1, .int .i64 f1, .slice A1_x0 ss1.length c1_x0, .int .i64 d2, .int .i64 f2, .slice A2_x0 ss2.length c2_x0, .slice A3_x0 st.length c3_x0, .slice A4_x0 P.length c4_x0, .slice A5_x0 pp.length c5_x0, .int .i64 m] 41)) := bel
  have hsw_w7 := hbw_w7.size
  have hch_w7 : w6.heap.size + 1 ≤ (w6.alloc (.cells #[.int .i64 d1, .int .i64 f1, .slice A1_x0 ss1.length c1_x0, .int .i64 d2, .int .i64 f2, .slice A2_x0 ss2.length c2_x0, .slice A3_x0 st.length c3_x0, .slice A4_x0 P.length c4_x0, .slice A5_x0 pp.length c5_x0, .int .i64 m] 41)).heap.size := (by simp; try omega)
  generalize (w6.alloc (.cells #[.int .i64 d1, .int .i64 f1, .slice A1_x0 ss1.length c1_x0, .int .i64 d2, .int .i64 f2, .slice A2_x0 ss2.length c2_x0, .slice A3_x0 st.length c3_x0, .slice A4_x0 P.length c4_x0, .slice A5_x0 pp.length c5_x0, .int .i64 m] 41)) = w7 at *
  clear hk_aW_w6 hk_w0_w6 ho_w0_w6 ho_x0_w6 hbw_w6 hsw_w6
  refine (unhide HIMPL _ _ _ _ _ _ _ _ _ _ _ (ho_x0_w7.rd ((unhide HOKW).more (by omega)))).mono ?_
  rintro e w8 ⟨A1_g0, c1_g0, A2_g0, c2_g0, A3_g0, c3_g0, A4_g0, c4_g0, A5_g0, c5_g0, rfl, hon, hb_w8⟩
  have hk_aW_w8 := blk_next hk_aW_w7 hb_w8
  have hk_w0_w8 := blk_next hk_w0_w7 hb_w8
  have hk_x0_w8 := blk_next hk_x0_w7 hb_w8
  have ho_w0_w8 := ho_w0_w7.below hb_w8
  have ho_x0_w8 := ho_x0_w7.below hb_w8
  have hbw_w8 : Below w.heap.size w w8 := hbw_w7.trans (Below.mono hb_w8 hsw_w7)
  have hsw_w8 := hbw_w8.size
  have hch_w8 : w7.heap.size ≤ w8.heap.size := hb_w8.size
  clear hk_aW_w7 hk_w0_w7 hk_x0_w7 ho_w0_w7 ho_x0_w7 hbw_w7 hsw_w7 hb_w8
  have ho_g0_w8 := hon
  clear hon
  obtain ⟨hx0_w0, hx1_w0, hx2_w0, hx3_w0, hx4_w0, hx5_w0, hx6_w0, hx7_w0, hx8_w0, hx9_w0, hxl_w0⟩ := blk10 hk_w0_w8
  go_wp2_with fail
  clear hx0_w0 hx1_w0 hx2_w0 hx3_w0 hx4_w0 hx5_w0 hx6_w0 hx7_w0 hx8_w0 hx9_w0 hxl_w0
  have hk_aW_w9 := (blk_alloc hk_aW_w8 (.cells #[.int .i64 d1r, .int .i64 f1r, .slice A1_g0 ss1r.length c1_g0, .int .i64 d2r, .int .i64 f2r, .slice A2_g0 ss2r.length c2_g0, .slice A3_g0 str.length c3_g0, .slice A4_g0 Pr.length c4_g0, .slice A5_g0 ppr.length c5_g0, .int .i64 mr] 41))
  have hk_w0_w9 := (blk_alloc hk_w0_w8 (.cells #[.int .i64 d1r, .int .i64 f1r, .slice A1_g0 ss1r.length c1_g0, .int .i64 d2r, .int .i64 f2r, .slice A2_g0 ss2r.length c2_g0, .slice A3_g0 str.length c3_g0, .slice A4_g0 Pr.length c4_g0, .slice A5_g0 ppr.length c5_g0, .int .i64 mr] 41))
  have hk_x0_w9 := (blk_alloc hk_x0_w8 (.cells #[.int .i64 d1r, .int .i64 f1r, .slice A1_g0 ss1r.length c1_g0, .int .i64 d2r, .int .i64 f2r, .slice A2_g0 ss2r.length c2_g0, .slice A3_g0 str.length c3_g0, .slice A4_g0 Pr.length c4_g0, .slice A5_g0 ppr.length c5_g0, .int .i64 mr] 41))
  have hk_g0_w9 := (blk_new_at w8 (.cells #[.int .i64 d1r, .int .i64 f1r, .slice A1_g0 ss1r.length c1_g0, .int .i64 d2r, .int .i64 f2r, .slice A2_g0 ss2r.length c2_g0, .slice A3_g0 str.length c3_g0, .slice A4_g0 Pr.length c4_g0, .slice A5_g0 ppr.length c5_g0, .int .i64 mr] 41) (k := w8.heap.size) (by simp))
  have ho_w0_w9 := (ho_w0_w8.alloc (.cells #[.int .i64 d1r, .int .i64 f1r, .slice A1_g0 ss1r.length c1_g0, .int .i64 d2r, .int .i64 f2r, .slice A2_g0 ss2r.length c2_g0, .slice A3_g0 str.length c3_g0, .slice A4_g0 Pr.length c4_g0, .slice A5_g0 ppr.length c5_g0, .int .i64 mr] 41))
  have ho_x0_w9 := (ho_x0_w8.alloc (.cells #[.int .i64 d1r, .int .i64 f1r, .slice A1_g0 ss1r.length c1_g0, .int .i64 d2r, .int .i64 f2r, .slice A2_g0 ss2r.length c2_g0, .slice A3_g0 str.length c3_g0, .slice A4_g0 Pr.length c4_g0, .slice A5_g0 ppr.length c5_g0, .int .i64 mr] 41))
  have ho_g0_w9 := (ho_g0_w8.alloc (.cells #[.int .i64 d1r, .int .i64 f1r, .slice A1_g0 ss1r.length c1_g0, .int .i64 d2r, .int .i64 f2r, .slice A2_g0 ss2r.length c2_g0, .slice A3_g0 str.length c3_g0, .slice A4_g0 Pr.length c4_g0, .slice A5_g0 ppr.length c5_g0, .int .i64 mr] 41))
  have hbw_w9 : Below w.heap.size w (w8.alloc (.cells #[.int .i64 d1r, .int .i64 f1r, .slice A1_g0 ss1r.length c1_g0, .int .i64 d2r, .int .i64 f2r, .slice A2_g0 ss2r.length c2_g0, .slice A3_g0 str.length c3_g0, .slice A4_g0 Pr.length c4_g0, .slice A5_g0 ppr.length c5_g0, .int .i64 mr] 41)) := bel
  have hsw_w9 := hbw_w9.size
  have hch_w9 : w8.heap.size + 1 ≤ (w8.alloc (.cells #[.int .i64 d1r, .int .i64 f1r, .slice A1_g0 ss1r.length c1_g0, .int .i64 d2r, .int .i64 f2r, .slice A2_g0 ss2r.length c2_g0, .slice A3_g0 str.length c3_g0, .slice A4_g0 Pr.length c4_g0, .slice A5_g0 ppr.length c5_g0, .int .i64 mr] 41)).heap.size := (by simp; try omega)
  generalize (w8.alloc (.cells #[.int .i64 d1r, .int .i64 f1r, .slice A1_g0 ss1r.length c1_g0, .int .i64 d2r, .int .i64 f2r, .slice A2_g0 ss2r.length c2_g0, .slice A3_g0 str.length c3_g0, .slice A4_g0 Pr.length c4_g0, .slice A5_g0 ppr.length c5_g0, .int .i64 mr] 41)) = w9 at *
  clear hk_aW_w8 hk_w0_w8 hk_x0_w8 ho_w0_w8 ho_x0_w8 ho_g0_w8 hbw_w8 hsw_w8
  refine (u_eqWorkshop d1r f1r ss1r d2r f2r ss2r str Pr ppr mr _ _ _ _ _ _ _ _ _ _ _ _ _ _ _ _ _ _ _ _ _ _ _ _ _ ho_g0_w9 ho_w0_w9 ((unhide HOKR).more (by omega))).mono ?_
  rintro e w10 ⟨rfl, hb_w10⟩
  have hk_aW_w10 := blk_next hk_aW_w9 hb_w10
  have hk_w0_w10 := blk_next hk_w0_w9 hb_w10
  have hk_x0_w10 := blk_next hk_x0_w9 hb_w10
  have hk_g0_w10 := blk_next hk_g0_w9 hb_w10
  have ho_w0_w10 := ho_w0_w9.below hb_w10
  have ho_x0_w10 := ho_x0_w9.below hb_w10
  have ho_g0_w10 := ho_g0_w9.below hb_w10
  have hbw_w10 : Below w.heap.size w w10 := hbw_w9.trans (Below.mono hb_w10 hsw_w9)
  have hsw_w10 := hbw_w10.size
  have hch_w10 : w9.heap.size ≤ w10.heap.size := hb_w10.size
  clear hk_aW_w9 hk_w0_w9 hk_x0_w9 hk_g0_w9 ho_w0_w9 ho_x0_w9 ho_g0_w9 hbw_w9 hsw_w9 hb_w10
  obtain ⟨hx0_aW, hx1_aW, hx2_aW, hx3_aW, hx4_aW, hx5_aW, hx6_aW, hx7_aW, hx8_aW, hx9_aW, hxl_aW⟩ := blk10 hk_aW_w10
  obtain ⟨hx0_x0, hx1_x0, hx2_x0, hx3_x0, hx4_x0, hx5_x0, hx6_x0, hx7_x0, hx8_x0, hx9_x0, hxl_x0⟩ := blk10 hk_x0_w10
  go_wp2_with fail
  have hS_c := hSW.below hbw_w10
  go_region_held3 (fun W => (∀ b o, b < w10.heap.size → W.cell? ⟨b, o, none⟩ = (w10).cell? ⟨b, o, none⟩) ∧ (∀ b o, b < w10.heap.size → W.frozen? ⟨b, o, none⟩ = (w10).frozen? ⟨b, o, none⟩) ∧ Below (w10.heap.size) (w10) W) (exact keep_of bel) (first | (go_at_call 17; have hq := (‹_ ∧ _ ∧ Below _ _ _›).2.2; refine (u_toWorkshop d1 f1 ss1 d2 f2 ss2 st P pp m w.heap.size A1 A2 A3 A4 A5 c1 c2 c3 c4 c5 _ ?_ ?_).mono ?_; exact hS_c.below (hq.mono hsw_w10); exact Nat.le_trans hsw_w10 hq.size; rintro e wa_w11 ⟨A1_aw11, c1_aw11, A2_aw11, c2_aw11, A3_aw11, c3_aw11, A4_aw11, c4_aw11, A5_aw11, c5_aw11, rfl, hoa, hba⟩) | (go_at_call 19; have hq2 := (‹_ ∧ _ ∧ Below _ _ _›).2.2; (first | refine (u_eqWorkshop d1 f1 ss1 d2 f2 ss2 st P pp m _ _ _ _ _ _ _ _ _ _ _ _ _ _ _ _ _ _ _ _ _ _ _ _ _ (ho_x0_w10.below hq2) hoa ((unhide HOKW).more (by omega))).mono ?_ | refine (u_eqWorkshop d1 f1 ss1 d2 f2 ss2 st P pp m _ _ _ _ _ _ _ _ _ _ _ _ _ _ _ _ _ _ _ _ _ _ _ _ _ (ho_x0_w10.below hq2) hoa.drew ((unhide HOKW).more (by omega))).mono ?_); rintro e w11 ⟨rfl, hbz⟩))
  have hb67 : Below w10.heap.size w10 wa_w11 := (Below.refl _ _).drew.trans hba
  have hz7 : w10.heap.size ≤ wa_w11.heap.size := hba.size
  have hb68 : Below w10.heap.size w10 w11 := hb67.trans (hbz.mono hz7)
  clear hS_c hoa hba hbz hb67 hz7
  clear hx0_aW hx1_aW hx2_aW hx3_aW hx4_aW hx5_aW hx6_aW hx7_aW hx8_aW hx9_aW hxl_aW hx0_x0 hx1_x0 hx2_x0 hx3_x0 hx4_x0 hx5_x0 hx6_x0 hx7_x0 hx8_x0 hx9_x0 hxl_x0
  have hk_aW_w11 := blk_next hk_aW_w10 hb68
  have hk_w0_w11 := blk_next hk_w0_w10 hb68
  have hk_x0_w11 := blk_next hk_x0_w10 hb68
  have hk_g0_w11 := blk_next hk_g0_w10 hb68
  have ho_w0_w11 := ho_w0_w10.below hb68
  have ho_x0_w11 := ho_x0_w10.below hb68
  have ho_g0_w11 := ho_g0_w10.below hb68
  have hbw_w11 : Below w.heap.size w w11 := hbw_w10.trans (Below.mono hb68 hsw_w10)
  have hsw_w11 := hbw_w11.size
  have hch_w11 : w10.heap.size ≤ w11.heap.size := hb68.size
  clear hk_aW_w10 hk_w0_w10 hk_x0_w10 hk_g0_w10 ho_w0_w10 ho_x0_w10 ho_g0_w10 hbw_w10 hsw_w10 hb68
  obtain ⟨hx0_x0, hx1_x0, hx2_x0, hx3_x0, hx4_x0, hx5_x0, hx6_x0, hx7_x0, hx8_x0, hx9_x0, hxl_x0⟩ := blk10 hk_x0_w11
  go_wp2_with fail
  refine (u_markWorkshop d1 f1 ss1 d2 f2 ss2 st P pp m _ _ _ _ _ _ _ _ _ _ _ _ (1) _ ho_x0_w11 (by have hq1_HOKW := (unhide HOKW).d.l1; have hq2_HOKW := (unhide HOKW).d.l2; have hq3_HOKW := (unhide HOKW).d.l3; simp only at hq1_HOKW hq2_HOKW hq3_HOKW; have hq4_HOKW := cntI_le (unhide HOKW).i; have hq5_HOKW := (unhide HOKW).p; omega) (by have hq1_HOKW := (unhide HOKW).d.l1; have hq2_HOKW := (unhide HOKW).d.l2; have hq3_HOKW := (unhide HOKW).d.l3; simp only at hq1_HOKW hq2_HOKW hq3_HOKW; have hq4_HOKW := cntI_le (unhide HOKW).i; have hq5_HOKW := (unhide HOKW).p; omega) ((unhide HOKW).more (by omega))).mono ?_
  rintro e w12 ⟨rfl, hm_w12, hW_w12⟩
  clear hm_w12
  clear hx0_x0 hx1_x0 hx2_x0 hx3_x0 hx4_x0 hx5_x0 hx6_x0 hx7_x0 hx8_x0 hx9_x0 hxl_x0
  have hk_aW_w12 := hW_w12.box hk_aW_w11
  have hk_w0_w12 := hW_w12.box hk_w0_w11
  have hk_x0_w12 := hW_w12.box hk_x0_w11
  have hk_g0_w12 := hW_w12.box hk_g0_w11
  have ho_w0_w12 := ho_w0_w11.within hW_w12 (by omega)
  have ho_g0_w12 := ho_g0_w11.within hW_w12 (by omega)
  have hbw_w12 : Below w.heap.size w w12 := hbw_w11.trans (hW_w12.below (by omega) (by omega))
  have hsw_w12 := hbw_w12.size
  have hch_w12 : w11.heap.size ≤ w12.heap.size := hW_w12.size
  clear hk_aW_w11 hk_w0_w11 hk_x0_w11 hk_g0_w11 ho_w0_w11 ho_x0_w11 ho_g0_w11 hbw_w11 hsw_w11 hW_w12
  obtain ⟨hx0_w0, hx1_w0, hx2_w0, hx3_w0, hx4_w0, hx5_w0, hx6_w0, hx7_w0, hx8_w0, hx9_w0, hxl_w0⟩ := blk10 hk_w0_w12
  obtain ⟨hx0_g0, hx1_g0, hx2_g0, hx3_g0, hx4_g0, hx5_g0, hx6_g0, hx7_g0, hx8_g0, hx9_g0, hxl_g0⟩ := blk10 hk_g0_w12
  go_wp2_with fail
  refine (u_eqWorkshop d1r f1r ss1r d2r f2r ss2r str Pr ppr mr _ _ _ _ _ _ _ _ _ _ _ _ _ _ _ _ _ _ _ _ _ _ _ _ _ ho_g0_w12 ho_w0_w12 ((unhide HOKR).more (by omega))).mono ?_
  rintro e w13 ⟨rfl, hb_w13⟩
  clear hx0_w0 hx1_w0 hx2_w0 hx3_w0 hx4_w0 hx5_w0 hx6_w0 hx7_w0 hx8_w0 hx9_w0 hxl_w0 hx0_g0 hx1_g0 hx2_g0 hx3_g0 hx4_g0 hx5_g0 hx6_g0 hx7_g0 hx8_g0 hx9_g0 hxl_g0
  have hk_aW_w13 := blk_next hk_aW_w12 hb_w13
  have hk_w0_w13 := blk_next hk_w0_w12 hb_w13
  have hk_x0_w13 := blk_next hk_x0_w12 hb_w13
  have hk_g0_w13 := blk_next hk_g0_w12 hb_w13
  have ho_w0_w13 := ho_w0_w12.below hb_w13
  have ho_g0_w13 := ho_g0_w12.below hb_w13
  have hbw_w13 : Below w.heap.size w w13 := hbw_w12.trans (Below.mono hb_w13 hsw_w12)
  have hsw_w13 := hbw_w13.size
  have hch_w13 : w12.heap.size ≤ w13.heap.size := hb_w13.size
  clear hk_aW_w12 hk_w0_w12 hk_x0_w12 hk_g0_w12 ho_w0_w12 ho_g0_w12 hbw_w12 hsw_w12 hb_w13
  obtain ⟨hx0_g0, hx1_g0, hx2_g0, hx3_g0, hx4_g0, hx5_g0, hx6_g0, hx7_g0, hx8_g0, hx9_g0, hxl_g0⟩ := blk10 hk_g0_w13
  go_wp2_with fail
  refine (u_markWorkshop d1r f1r ss1r d2r f2r ss2r str Pr ppr mr _ _ _ _ _ _ _ _ _ _ _ _ (1) _ ho_g0_w13 (by have hq1_HOKW := (unhide HOKW).d.l1; have hq2_HOKW := (unhide HOKW).d.l2; have hq3_HOKW := (unhide HOKW).d.l3; simp only at hq1_HOKW hq2_HOKW hq3_HOKW; have hq4_HOKW := cntI_le (unhide HOKW).i; have hq5_HOKW := (unhide HOKW).p; have hq1_HOKR := (unhide HOKR).d.l1; have hq2_HOKR := (unhide HOKR).d.l2; have hq3_HOKR := (unhide HOKR).d.l3; simp only at hq1_HOKR hq2_HOKR hq3_HOKR; have hq4_HOKR := cntI_le (unhide HOKR).i; have hq5_HOKR := (unhide HOKR).p; omega) (by have hq1_HOKW := (unhide HOKW).d.l1; have hq2_HOKW := (unhide HOKW).d.l2; have hq3_HOKW := (unhide HOKW).d.l3; simp only at hq1_HOKW hq2_HOKW hq3_HOKW; have hq4_HOKW := cntI_le (unhide HOKW).i; have hq5_HOKW := (unhide HOKW).p; have hq1_HOKR := (unhide HOKR).d.l1; have hq2_HOKR := (unhide HOKR).d.l2; have hq3_HOKR := (unhide HOKR).d.l3; simp only at hq1_HOKR hq2_HOKR hq3_HOKR; have hq4_HOKR := cntI_le (unhide HOKR).i; have hq5_HOKR := (unhide HOKR).p; omega) ((unhide HOKR).more (by omega))).mono ?_
  rintro e w14 ⟨rfl, hm_w14, hW_w14⟩
  clear hx0_g0 hx1_g0 hx2_g0 hx3_g0 hx4_g0 hx5_g0 hx6_g0 hx7_g0 hx8_g0 hx9_g0 hxl_g0
  have hk_aW_w14 := hW_w14.box hk_aW_w13
  have hk_w0_w14 := hW_w14.box hk_w0_w13
  have hk_x0_w14 := hW_w14.box hk_x0_w13
  have hk_g0_w14 := hW_w14.box hk_g0_w13
  have ho_w0_w14 := ho_w0_w13.within hW_w14 (by omega)
  have hbw_w14 : Below w.heap.size w w14 := hbw_w13.trans (hW_w14.below (by omega) (by omega))
  have hsw_w14 := hbw_w14.size
  have hch_w14 : w13.heap.size ≤ w14.heap.size := hW_w14.size
  clear hk_aW_w13 hk_w0_w13 hk_x0_w13 hk_g0_w13 ho_w0_w13 ho_g0_w13 hbw_w13 hsw_w13 hW_w14
  have ho_g0_w14 := hm_w14
  clear hm_w14
  obtain ⟨hx0_g0, hx1_g0, hx2_g0, hx3_g0, hx4_g0, hx5_g0, hx6_g0, hx7_g0, hx8_g0, hx9_g0, hxl_g0⟩ := blk10 hk_g0_w14
  go_wp2_with fail
  refine (u_heldWorkshop d1r f1r d2r f2r mr Pr _ _ _ _ _ _ _ _ _ _ _ _ _ _ _ _ (1) _ ho_g0_w14 (by have hq1_HOKR := (unhide HOKR).d.l1; have hq2_HOKR := (unhide HOKR).d.l2; have hq3_HOKR := (unhide HOKR).d.l3; simp only at hq1_HOKR hq2_HOKR hq3_HOKR; have hq4_HOKR := cntI_le (unhide HOKR).i; have hq5_HOKR := (unhide HOKR).p; omega) (by have hq1_HOKR := (unhide HOKR).d.l1; have hq2_HOKR := (unhide HOKR).d.l2; have hq3_HOKR := (unhide HOKR).d.l3; simp only at hq1_HOKR hq2_HOKR hq3_HOKR; have hq4_HOKR := cntI_le (unhide HOKR).i; have hq5_HOKR := (unhide HOKR).p; omega) (by have hq1_HOKR := (unhide HOKR).d.l1; have hq2_HOKR := (unhide HOKR).d.l2; have hq3_HOKR := (unhide HOKR).d.l3; simp only at hq1_HOKR hq2_HOKR hq3_HOKR; have hq4_HOKR := cntI_le (unhide HOKR).i; have hq5_HOKR := (unhide HOKR).p; omega) (by have hq1_HOKR := (unhide HOKR).d.l1; have hq2_HOKR := (unhide HOKR).d.l2; have hq3_HOKR := (unhide HOKR).d.l3; simp only at hq1_HOKR hq2_HOKR hq3_HOKR; have hq4_HOKR := cntI_le (unhide HOKR).i; have hq5_HOKR := (unhide HOKR).p; omega) (by have hq1_HOKR := (unhide HOKR).d.l1; have hq2_HOKR := (unhide HOKR).d.l2; have hq3_HOKR := (unhide HOKR).d.l3; simp only at hq1_HOKR hq2_HOKR hq3_HOKR; have hq4_HOKR := cntI_le (unhide HOKR).i; have hq5_HOKR := (unhide HOKR).p; omega) ((unhide HOKR).more (by omega)).i (by have hq1_HOKR := (unhide HOKR).d.l1; have hq2_HOKR := (unhide HOKR).d.l2; have hq3_HOKR := (unhide HOKR).d.l3; simp only at hq1_HOKR hq2_HOKR hq3_HOKR; have hq4_HOKR := cntI_le (unhide HOKR).i; have hq5_HOKR := (unhide HOKR).p; omega)).mono ?_
  rintro e w15 ⟨rfl, hb_w15⟩
  clear hx0_g0 hx1_g0 hx2_g0 hx3_g0 hx4_g0 hx5_g0 hx6_g0 hx7_g0 hx8_g0 hx9_g0 hxl_g0
  have hk_aW_w15 := blk_next hk_aW_w14 hb_w15
  have hk_w0_w15 := blk_next hk_w0_w14 hb_w15
  have hk_x0_w15 := blk_next hk_x0_w14 hb_w15
  have hk_g0_w15 := blk_next hk_g0_w14 hb_w15
  have ho_w0_w15 := ho_w0_w14.below hb_w15
  have ho_g0_w15 := ho_g0_w14.below hb_w15
  have hbw_w15 : Below w.heap.size w w15 := hbw_w14.trans (Below.mono hb_w15 hsw_w14)
  have hsw_w15 := hbw_w15.size
  have hch_w15 : w14.heap.size ≤ w15.heap.size := hb_w15.size
  clear hk_aW_w14 hk_w0_w14 hk_x0_w14 hk_g0_w14 ho_w0_w14 ho_g0_w14 hbw_w14 hsw_w14 hb_w15
  obtain ⟨hx0_aW, hx1_aW, hx2_aW, hx3_aW, hx4_aW, hx5_aW, hx6_aW, hx7_aW, hx8_aW, hx9_aW, hxl_aW⟩ := blk10 hk_aW_w15
  go_wp2_with fail
  refine (u_toWorkshop d1 f1 ss1 d2 f2 ss2 st P pp m w.heap.size A1 A2 A3 A4 A5 c1 c2 c3 c4 c5 _ (hSW.below hbw_w15) hsw_w15).mono ?_
  rintro e w16 ⟨A1_t3_0, c1_t3_0, A2_t3_0, c2_t3_0, A3_t3_0, c3_t3_0, A4_t3_0, c4_t3_0, A5_t3_0, c5_t3_0, rfl, hon, hb_w16⟩
  clear hx0_aW hx1_aW hx2_aW hx3_aW hx4_aW hx5_aW hx6_aW hx7_aW hx8_aW hx9_aW hxl_aW
  have hk_aW_w16 := blk_next hk_aW_w15 hb_w16
  have hk_w0_w16 := blk_next hk_w0_w15 hb_w16
  have hk_x0_w16 := blk_next hk_x0_w15 hb_w16
  have hk_g0_w16 := blk_next hk_g0_w15 hb_w16
  have ho_w0_w16 := ho_w0_w15.below hb_w16
  have ho_g0_w16 := ho_g0_w15.below hb_w16
  have hbw_w16 : Below w.heap.size w w16 := hbw_w15.trans (Below.mono hb_w16 hsw_w15)
  have hsw_w16 := hbw_w16.size
  have hch_w16 : w15.heap.size ≤ w16.heap.size := hb_w16.size
  clear hk_aW_w15 hk_w0_w15 hk_x0_w15 hk_g0_w15 ho_w0_w15 ho_g0_w15 hbw_w15 hsw_w15 hb_w16
  have ho_t3_0_w16 := hon
  clear hon
  obtain ⟨hx0_aW, hx1_aW, hx2_aW, hx3_aW, hx4_aW, hx5_aW, hx6_aW, hx7_aW, hx8_aW, hx9_aW, hxl_aW⟩ := blk10 hk_aW_w16
  go_wp2_with fail
  refine (unhide HIMPL _ _ _ _ _ _ _ _ _ _ _ (ho_t3_0_w16.rd ((unhide HOKW).more (by omega)))).mono ?_
  rintro e w17 ⟨A1_h0, c1_h0, A2_h0, c2_h0, A3_h0, c3_h0, A4_h0, c4_h0, A5_h0, c5_h0, rfl, hon, hb_w17⟩
  clear ho_t3_0_w16
  clear hx0_aW hx1_aW hx2_aW hx3_aW hx4_aW hx5_aW hx6_aW hx7_aW hx8_aW hx9_aW hxl_aW
  have hk_aW_w17 := blk_next hk_aW_w16 hb_w17
  have hk_w0_w17 := blk_next hk_w0_w16 hb_w17
  have hk_x0_w17 := blk_next hk_x0_w16 hb_w17
  have hk_g0_w17 := blk_next hk_g0_w16 hb_w17
  have ho_w0_w17 := ho_w0_w16.below hb_w17
  have ho_g0_w17 := ho_g0_w16.below hb_w17
  have hbw_w17 : Below w.heap.size w w17 := hbw_w16.trans (Below.mono hb_w17 hsw_w16)
  have hsw_w17 := hbw_w17.size
  have hch_w17 : w16.heap.size ≤ w17.heap.size := hb_w17.size
  clear hk_aW_w16 hk_w0_w16 hk_x0_w16 hk_g0_w16 ho_w0_w16 ho_g0_w16 hbw_w16 hsw_w16 hb_w17
  have ho_h0_w17 := hon
  clear hon
  obtain ⟨hx0_w0, hx1_w0, hx2_w0, hx3_w0, hx4_w0, hx5_w0, hx6_w0, hx7_w0, hx8_w0, hx9_w0, hxl_w0⟩ := blk10 hk_w0_w17
  go_wp2_with fail
  clear hx0_w0 hx1_w0 hx2_w0 hx3_w0 hx4_w0 hx5_w0 hx6_w0 hx7_w0 hx8_w0 hx9_w0 hxl_w0
  have hk_aW_w18 := (blk_alloc hk_aW_w17 (.cells #[.int .i64 d1r, .int .i64 f1r, .slice A1_h0 ss1r.length c1_h0, .int .i64 d2r, .int .i64 f2r, .slice A2_h0 ss2r.length c2_h0, .slice A3_h0 str.length c3_h0, .slice A4_h0 Pr.length c4_h0, .slice A5_h0 ppr.length c5_h0, .int .i64 mr] 41))
  have hk_w0_w18 := (blk_alloc hk_w0_w17 (.cells #[.int .i64 d1r, .int .i64 f1r, .slice A1_h0 ss1r.length c1_h0, .int .i64 d2r, .int .i64 f2r, .slice A2_h0 ss2r.length c2_h0, .slice A3_h0 str.length c3_h0, .slice A4_h0 Pr.length c4_h0, .slice A5_h0 ppr.length c5_h0, .int .i64 mr] 41))
  have hk_x0_w18 := (blk_alloc hk_x0_w17 (.cells #[.int .i64 d1r, .int .i64 f1r, .slice A1_h0 ss1r.length c1_h0, .int .i64 d2r, .int .i64 f2r, .slice A2_h0 ss2r.length c2_h0, .slice A3_h0 str.length c3_h0, .slice A4_h0 Pr.length c4_h0, .slice A5_h0 ppr.length c5_h0, .int .i64 mr] 41))
  have hk_g0_w18 := (blk_alloc hk_g0_w17 (.cells #[.int .i64 d1r, .int .i64 f1r, .slice A1_h0 ss1r.length c1_h0, .int .i64 d2r, .int .i64 f2r, .slice A2_h0 ss2r.length c2_h0, .slice A3_h0 str.length c3_h0, .slice A4_h0 Pr.length c4_h0, .slice A5_h0 ppr.length c5_h0, .int .i64 mr] 41))
  have hk_h0_w18 := (blk_new_at w17 (.cells #[.int .i64 d1r, .int .i64 f1r, .slice A1_h0 ss1r.length c1_h0, .int .i64 d2r, .int .i64 f2r, .slice A2_h0 ss2r.length c2_h0, .slice A3_h0 str.length c3_h0, .slice A4_h0 Pr.length c4_h0, .slice A5_h0 ppr.length c5_h0, .int .i64 mr] 41) (k := w17.heap.size) (by simp))
  have ho_w0_w18 := (ho_w0_w17.alloc (.cells #[.int .i64 d1r, .int .i64 f1r, .slice A1_h0 ss1r.length c1_h0, .int .i64 d2r, .int .i64 f2r, .slice A2_h0 ss2r.length c2_h0, .slice A3_h0 str.length c3_h0, .slice A4_h0 Pr.length c4_h0, .slice A5_h0 ppr.length c5_h0, .int .i64 mr] 41))
  have ho_g0_w18 := (ho_g0_w17.alloc (.cells #[.int .i64 d1r, .int .i64 f1r, .slice A1_h0 ss1r.length c1_h0, .int .i64 d2r, .int .i64 f2r, .slice A2_h0 ss2r.length c2_h0, .slice A3_h0 str.length c3_h0, .slice A4_h0 Pr.length c4_h0, .slice A5_h0 ppr.length c5_h0, .int .i64 mr] 41))
  have ho_h0_w18 := (ho_h0_w17.alloc (.cells #[.int .i64 d1r, .int .i64 f1r, .slice A1_h0 ss1r.length c1_h0, .int .i64 d2r, .int .i64 f2r, .slice A2_h0 ss2r.length c2_h0, .slice A3_h0 str.length c3_h0, .slice A4_h0 Pr.length c4_h0, .slice A5_h0 ppr.length c5_h0, .int .i64 mr] 41))
  have hbw_w18 : Below w.heap.size w (w17.alloc (.cells #[.int .i64 d1r, .int .i64 f1r, .slice A1_h0 ss1r.length c1_h0, .int .i64 d2r, .int .i64 f2r, .slice A2_h0 ss2r.length c2_h0, .slice A3_h0 str.length c3_h0, .slice A4_h0 Pr.length c4_h0, .slice A5_h0 ppr.length c5_h0, .int .i64 mr] 41)) := bel
  have hsw_w18 := hbw_w18.size
  have hch_w18 : w17.heap.size + 1 ≤ (w17.alloc (.cells #[.int .i64 d1r, .int .i64 f1r, .slice A1_h0 ss1r.length c1_h0, .int .i64 d2r, .int .i64 f2r, .slice A2_h0 ss2r.length c2_h0, .slice A3_h0 str.length c3_h0, .slice A4_h0 Pr.length c4_h0, .slice A5_h0 ppr.length c5_h0, .int .i64 mr] 41)).heap.size := (by simp; try omega)
  generalize (w17.alloc (.cells #[.int .i64 d1r, .int .i64 f1r, .slice A1_h0 ss1r.length c1_h0, .int .i64 d2r, .int .i64 f2r, .slice A2_h0 ss2r.length c2_h0, .slice A3_h0 str.length c3_h0, .slice A4_h0 Pr.length c4_h0, .slice A5_h0 ppr.length c5_h0, .int .i64 mr] 41)) = w18 at *
  clear hk_aW_w17 hk_w0_w17 hk_x0_w17 hk_g0_w17 ho_w0_w17 ho_g0_w17 ho_h0_w17 hbw_w17 hsw_w17
  refine (u_eqWorkshop d1r f1r ss1r d2r f2r ss2r str Pr ppr mr _ _ _ _ _ _ _ _ _ _ _ _ _ _ _ _ _ _ _ _ _ _ _ _ _ ho_h0_w18 ho_w0_w18 ((unhide HOKR).more (by omega))).mono ?_
  rintro e w19 ⟨rfl, hb_w19⟩
  have hk_aW_w19 := blk_next hk_aW_w18 hb_w19
  have hk_w0_w19 := blk_next hk_w0_w18 hb_w19
  have hk_x0_w19 := blk_next hk_x0_w18 hb_w19
  have hk_g0_w19 := blk_next hk_g0_w18 hb_w19
  have hk_h0_w19 := blk_next hk_h0_w18 hb_w19
  have ho_w0_w19 := ho_w0_w18.below hb_w19
  have ho_g0_w19 := ho_g0_w18.below hb_w19
  have ho_h0_w19 := ho_h0_w18.below hb_w19
  have hbw_w19 : Below w.heap.size w w19 := hbw_w18.trans (Below.mono hb_w19 hsw_w18)
  have hsw_w19 := hbw_w19.size
  have hch_w19 : w18.heap.size ≤ w19.heap.size := hb_w19.size
  clear hk_aW_w18 hk_w0_w18 hk_x0_w18 hk_g0_w18 hk_h0_w18 ho_w0_w18 ho_g0_w18 ho_h0_w18 hbw_w18 hsw_w18 hb_w19
  obtain ⟨hx0_g0, hx1_g0, hx2_g0, hx3_g0, hx4_g0, hx5_g0, hx6_g0, hx7_g0, hx8_g0, hx9_g0, hxl_g0⟩ := blk10 hk_g0_w19
  go_wp2_with fail
  refine (u_heldWorkshop d1r f1r d2r f2r mr Pr _ _ _ _ _ _ _ _ _ _ _ _ _ _ _ _ (1) _ ho_g0_w19 (by have hq1_HOKR := (unhide HOKR).d.l1; have hq2_HOKR := (unhide HOKR).d.l2; have hq3_HOKR := (unhide HOKR).d.l3; simp only at hq1_HOKR hq2_HOKR hq3_HOKR; have hq4_HOKR := cntI_le (unhide HOKR).i; have hq5_HOKR := (unhide HOKR).p; omega) (by have hq1_HOKR := (unhide HOKR).d.l1; have hq2_HOKR := (unhide HOKR).d.l2; have hq3_HOKR := (unhide HOKR).d.l3; simp only at hq1_HOKR hq2_HOKR hq3_HOKR; have hq4_HOKR := cntI_le (unhide HOKR).i; have hq5_HOKR := (unhide HOKR).p; omega) (by have hq1_HOKR := (unhide HOKR).d.l1; have hq2_HOKR := (unhide HOKR).d.l2; have hq3_HOKR := (unhide HOKR).d.l3; simp only at hq1_HOKR hq2_HOKR hq3_HOKR; have hq4_HOKR := cntI_le (unhide HOKR).i; have hq5_HOKR := (unhide HOKR).p; omega) (by have hq1_HOKR := (unhide HOKR).d.l1; have hq2_HOKR := (unhide HOKR).d.l2; have hq3_HOKR := (unhide HOKR).d.l3; simp only at hq1_HOKR hq2_HOKR hq3_HOKR; have hq4_HOKR := cntI_le (unhide HOKR).i; have hq5_HOKR := (unhide HOKR).p; omega) (by have hq1_HOKR := (unhide HOKR).d.l1; have hq2_HOKR := (unhide HOKR).d.l2; have hq3_HOKR := (unhide HOKR).d.l3; simp only at hq1_HOKR hq2_HOKR hq3_HOKR; have hq4_HOKR := cntI_le (unhide HOKR).i; have hq5_HOKR := (unhide HOKR).p; omega) ((unhide HOKR).more (by omega)).i (by have hq1_HOKR := (unhide HOKR).d.l1; have hq2_HOKR := (unhide HOKR).d.l2; have hq3_HOKR := (unhide HOKR).d.l3; simp only at hq1_HOKR hq2_HOKR hq3_HOKR; have hq4_HOKR := cntI_le (unhide HOKR).i; have hq5_HOKR := (unhide HOKR).p; omega)).mono ?_
  rintro e w20 ⟨rfl, hb_w20⟩
  clear hx0_g0 hx1_g0 hx2_g0 hx3_g0 hx4_g0 hx5_g0 hx6_g0 hx7_g0 hx8_g0 hx9_g0 hxl_g0
  have hk_aW_w20 := blk_next hk_aW_w19 hb_w20
  have hk_w0_w20 := blk_next hk_w0_w19 hb_w20
  have hk_x0_w20 := blk_next hk_x0_w19 hb_w20
  have hk_g0_w20 := blk_next hk_g0_w19 hb_w20
  have hk_h0_w20 := blk_next hk_h0_w19 hb_w20
  have ho_w0_w20 := ho_w0_w19.below hb_w20
  have ho_g0_w20 := ho_g0_w19.below hb_w20
  have ho_h0_w20 := ho_h0_w19.below hb_w20
  have hbw_w20 : Below w.heap.size w w20 := hbw_w19.trans (Below.mono hb_w20 hsw_w19)
  have hsw_w20 := hbw_w20.size
  have hch_w20 : w19.heap.size ≤ w20.heap.size := hb_w20.size
  clear hk_aW_w19 hk_w0_w19 hk_x0_w19 hk_g0_w19 hk_h0_w19 ho_w0_w19 ho_g0_w19 ho_h0_w19 hbw_w19 hsw_w19 hb_w20
  go_wp2
  go_ret
  exact ⟨rfl, hbw_w20⟩
end Go.Proofs.YtdddglihomchfaaGreat.fnExactKeepCard
