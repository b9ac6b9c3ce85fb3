/- The walk of FnExactWorkshopOk, for arguments that are not too large. -/
import Derived.Deep.DeepCutAuto
import Derived.Deep.RegionHeld3
import Derived.Deep.Slices
import Derived.Lib.SmallJoins
import Derived.SliceStrings
import Derived.Test.YtdddglihomchfaaGreatRows
import Derived.Test.YtdddglihomchfaaGreatQBn
import Derived.Test.YtdddglihomchfaaGreatQBm
import Derived.Test.YtdddglihomchfaaGreatQBb
namespace Go.Proofs.YtdddglihomchfaaGreat.fnExactWorkshopOk
open Go.ChangeShapes Go.WideShapes Go.ChangeAt Go.RowKit Go.Joins Go.WideMaps Go.WideElems
open Go.ChangeMaps (open_string shut_string)
set_option linter.unusedVariables false
set_option maxRecDepth 100000 in
set_option maxHeartbeats 16000000 in
theorem walkWorkshopOk (d1 f1 : Int) (ss1 : List ByteArray) (d2 f2 : Int) (ss2 : List ByteArray) (st : List PStep) (P : List PItem) (pp : List PPaper) (m : Int) (A1 A2 A3 A4 A5 : Option Addr) (c1 c2 c3 c4 c5 : Nat) (w : World) (hSW : RdWork0 w w.heap.size A1 A2 A3 A4 A5 (PDraft.mk d1 f1 ss1 d2 f2 ss2 st) P pp) (hnW : OkWork (PDraft.mk d1 f1 ss1 d2 f2 ss2 st) P pp 1048576) (hz1 : 0 ≤ szW (PDraft.mk d1 f1 ss1 d2 f2 ss2 st) P pp (1048576)) :
    Calls Tryz.prog 3 #[.agg #[.int .i64 d1, .int .i64 f1, .slice A1 ss1.length c1, .int .i64 d2, .int .i64 f2, .slice A2 ss2.length c2, .slice A3 st.length c3, .slice A4 P.length c4, .slice A5 pp.length c5, .int .i64 m]] w fun e w' => e = .returned (.bool true) ∧ Below w.heap.size w w' := by
  have hokW : OkWork (PDraft.mk d1 f1 ss1 d2 f2 ss2 st) P pp 1048576 := hnW
  have hspec := fun (W : World) (A1_0W : Option Addr) (c1_0W : Nat) (A2_0W : Option Addr) (c2_0W : Nat) (A3_0W : Option Addr) (c3_0W : Nat) (A4_0W : Option Addr) (c4_0W : Nat) (A5_0W : Option Addr) (c5_0W : Nat) (h_0W : RdWork W W.heap.size A1_0W A2_0W A3_0W A4_0W c4_0W A5_0W (PDraft.mk d1 f1 ss1 d2 f2 ss2 st) P pp) => s_WorkshopOk d1 f1 ss1 d2 f2 ss2 st P pp m W.heap.size A1_0W A2_0W A3_0W A4_0W A5_0W c1_0W c2_0W c3_0W c4_0W c5_0W W h_0W (Nat.le_refl _)
  have himpl := fun (W : World) (A1_0W : Option Addr) (c1_0W : Nat) (A2_0W : Option Addr) (c2_0W : Nat) (A3_0W : Option Addr) (c3_0W : Nat) (A4_0W : Option Addr) (c4_0W : Nat) (A5_0W : Option Addr) (c5_0W : Nat) (h_0W : RdWork W W.heap.size A1_0W A2_0W A3_0W A4_0W c4_0W A5_0W (PDraft.mk d1 f1 ss1 d2 f2 ss2 st) P pp) => i_WorkshopOk d1 f1 ss1 d2 f2 ss2 st P pp m W.heap.size A1_0W A2_0W A3_0W A4_0W A5_0W c1_0W c2_0W c3_0W c4_0W c5_0W W h_0W (Nat.le_refl _)
  generalize hgen0 : (workOk (PWork.mk (PDraft.mk d1 f1 ss1 d2 f2 ss2 st) P pp m)) = rb at hspec himpl
  clear hgen0
  have HSPEC := hide hspec
  have HIMPL := hide himpl
  clear hspec himpl
  have HOKW := hide hokW
  clear hokW
  go_enter Tryz.func3, Tryz.ntmps3
  go_wp2_with fail
  have hk_aW_w1 := (blk_new_at w (.cells #[.int .i64 d1, .int .i64 f1, .slice A1 ss1.length c1, .int .i64 d2, .int .i64 f2, .slice A2 ss2.length c2, .slice A3 st.length c3, .slice A4 P.length c4, .slice A5 pp.length c5, .int .i64 m] 31) (k := w.heap.size) (by simp))
  have hbw_w1 : Below w.heap.size w (w.alloc (.cells #[.int .i64 d1, .int .i64 f1, .slice A1 ss1.length c1, .int .i64 d2, .int .i64 f2, .slice A2 ss2.length c2, .slice A3 st.length c3, .slice A4 P.length c4, .slice A5 pp.length c5, .int .i64 m] 31)) := bel
  have hsw_w1 := hbw_w1.size
  have hch_w1 : w.heap.size + 1 ≤ (w.alloc (.cells #[.int .i64 d1, .int .i64 f1, .slice A1 ss1.length c1, .int .i64 d2, .int .i64 f2, .slice A2 ss2.length c2, .slice A3 st.length c3, .slice A4 P.length c4, .slice A5 pp.length c5, .int .i64 m] 31)).heap.size := (by simp; try omega)
  generalize (w.alloc (.cells #[.int .i64 d1, .int .i64 f1, .slice A1 ss1.length c1, .int .i64 d2, .int .i64 f2, .slice A2 ss2.length c2, .slice A3 st.length c3, .slice A4 P.length c4, .slice A5 pp.length c5, .int .i64 m] 31)) = w1 at *
  refine (l_szWorkshop d1 f1 ss1 d2 f2 ss2 st P pp m w.heap.size A1 A2 A3 A4 A5 c1 c2 c3 c4 c5 (1048576) _ hsw_w1 (hSW.raw.below hbw_w1) (by omega) (by omega)).mono ?_
  rintro e w2 ⟨rfl, hb_w2⟩
  have hk_aW_w2 := blk_next hk_aW_w1 hb_w2
  have hbw_w2 : Below w.heap.size w w2 := hbw_w1.trans (Below.mono hb_w2 hsw_w1)
  have hsw_w2 := hbw_w2.size
  have hch_w2 : w1.heap.size ≤ w2.heap.size := hb_w2.size
  clear hk_aW_w1 hbw_w1 hsw_w1 hb_w2
  have hub_w2 : szW (PDraft.mk d1 f1 ss1 d2 f2 ss2 st) P pp (1048576) ≤ 1048576 := szW_ub _ _ _ _ (by omega)
  obtain ⟨hx0_aW, hx1_aW, hx2_aW, hx3_aW, hx4_aW, hx5_aW, hx6_aW, hx7_aW, hx8_aW, hx9_aW, hxl_aW⟩ := blk10 hk_aW_w2
  go_wp2_with fail
  refine (u_toWorkshop d1 f1 ss1 d2 f2 ss2 st P pp m w.heap.size A1 A2 A3 A4 A5 c1 c2 c3 c4 c5 _ (hSW.below hbw_w2) hsw_w2).mono ?_
  rintro e w3 ⟨A1_t1_0, c1_t1_0, A2_t1_0, c2_t1_0, A3_t1_0, c3_t1_0, A4_t1_0, c4_t1_0, A5_t1_0, c5_t1_0, rfl, hon, hb_w3⟩
  clear hx0_aW hx1_aW hx2_aW hx3_aW hx4_aW hx5_aW hx6_aW hx7_aW hx8_aW hx9_aW hxl_aW
  have hk_aW_w3 := blk_next hk_aW_w2 hb_w3
  have hbw_w3 : Below w.heap.size w w3 := hbw_w2.trans (Below.mono hb_w3 hsw_w2)
  have hsw_w3 := hbw_w3.size
  have hch_w3 : w2.heap.size ≤ w3.heap.size := hb_w3.size
  clear hk_aW_w2 hbw_w2 hsw_w2 hb_w3
  have ho_t1_0_w3 := hon
  clear hon
  obtain ⟨hx0_aW, hx1_aW, hx2_aW, hx3_aW, hx4_aW, hx5_aW, hx6_aW, hx7_aW, hx8_aW, hx9_aW, hxl_aW⟩ := blk10 hk_aW_w3
  go_wp2_with fail
  refine (unhide HSPEC _ _ _ _ _ _ _ _ _ _ _ (ho_t1_0_w3.rd ((unhide HOKW).more (by omega)))).mono ?_
  rintro e w4 ⟨rfl, hb_w4⟩
  clear ho_t1_0_w3
  clear hx0_aW hx1_aW hx2_aW hx3_aW hx4_aW hx5_aW hx6_aW hx7_aW hx8_aW hx9_aW hxl_aW
  have hk_aW_w4 := blk_next hk_aW_w3 hb_w4
  have hbw_w4 : Below w.heap.size w w4 := hbw_w3.trans (Below.mono hb_w4 hsw_w3)
  have hsw_w4 := hbw_w4.size
  have hch_w4 : w3.heap.size ≤ w4.heap.size := hb_w4.size
  clear hk_aW_w3 hbw_w3 hsw_w3 hb_w4
  obtain ⟨hx0_aW, hx1_aW, hx2_aW, hx3_aW, hx4_aW, hx5_aW, hx6_aW, hx7_aW, hx8_aW, hx9_aW, hxl_aW⟩ := blk10 hk_aW_w4
  go_wp2_with fail
  refine (u_toWorkshop d1 f1 ss1 d2 f2 ss2 st P pp m w.heap.size A1 A2 A3 A4 A5 c1 c2 c3 c4 c5 _ (hSW.below hbw_w4) hsw_w4).mono ?_
  rintro e w5 ⟨A1_x0, c1_x0, A2_x0, c2_x0, A3_x0, c3_x0, A4_x0, c4_x0, A5_x0, c5_x0, rfl, hon, hb_w5⟩
  clear hx0_aW hx1_aW hx2_aW hx3_aW hx4_aW hx5_aW hx6_aW hx7_aW hx8_aW hx9_aW hxl_aW
  have hk_aW_w5 := blk_next hk_aW_w4 hb_w5
  have hbw_w5 : Below w.heap.size w w5 := hbw_w4.trans (Below.mono hb_w5 hsw_w4)
  have hsw_w5 := hbw_w5.size
  have hch_w5 : w4.heap.size ≤ w5.heap.size := hb_w5.size
  clear hk_aW_w4 hbw_w4 hsw_w4 hb_w5
  have ho_x0_w5 := hon
  clear hon
  go_wp2_with fail
  have hk_aW_w6 := (blk_alloc hk_aW_w5 (.cells #[.int .i64 d1, .int .i64 f1, .slice A1_x0 ss1.length c1_x0, .int .i64 d2, .int .i64 f2, .slice A2_x0 ss2.length c2_x0, .slice A3_x0 st.length c3_x0, .slice A4_x0 P.length c4_x0, .slice A5_x0 pp.length c5_x0, .int .i64 m] 41))
  have hk_x0_w6 := (blk_new_at w5 (.cells #[.int .i64 d1, .int .i64 f1, .slice A1_x0 ss1.length c1_x0, .int .i64 d2, .int .i64 f2, .slice A2_x0 ss2.length c2_x0, .slice A3_x0 st.length c3_x0, .slice A4_x0 P.length c4_x0, .slice A5_x0 pp.length c5_x0, .int .i64 m] 41) (k := w5.heap.size) (by simp))
  have ho_x0_w6 := (ho_x0_w5.alloc (.cells #[.int .i64 d1, .int .i64 f1, .slice A1_x0 ss1.length c1_x0, .int .i64 d2, .int .i64 f2, .slice A2_x0 ss2.length c2_x0, .slice A3_x0 st.length c3_x0, .slice A4_x0 P.length c4_x0, .slice A5_x0 pp.length c5_x0, .int .i64 m] 41))
  have hbw_w6 : Below w.heap.size w (w5.alloc (.cells #[.int .i64 d1, .int .i64 f1, .slice A1_x0 ss1.length c1_x0, .int .i64 d2, .int .i64 f2, .slice A2_x0 ss2.length c2_x0, .slice A3_x0 st.length c3_x0, .slice A4_x0 P.length c4_x0, .slice A5_x0 pp.length c5_x0, .int .i64 m] 41)) := bel
  have hsw_w6 := hbw_w6.size
  have hch_w6 : w5.heap.size + 1 ≤ (w5.alloc (.cells #[.int .i64 d1, .int .i64 f1, .slice A1_x0 ss1.length c1_x0, .int .i64 d2, .int .i64 f2, .slice A2_x0 ss2.length c2_x0, .slice A3_x0 st.length c3_x0, .slice A4_x0 P.length c4_x0, .slice A5_x0 pp.length c5_x0, .int .i64 m] 41)).heap.size := (by simp; try omega)
  generalize (w5.alloc (.cells #[.int .i64 d1, .int .i64 f1, .slice A1_x0 ss1.length c1_x0, .int .i64 d2, .int .i64 f2, .slice A2_x0 ss2.length c2_x0, .slice A3_x0 st.length c3_x0, .slice A4_x0 P.length c4_x0, .slice A5_x0 pp.length c5_x0, .int .i64 m] 41)) = w6 at *
  clear hk_aW_w5 ho_x0_w5 hbw_w5 hsw_w5
  refine (unhide HIMPL _ _ _ _ _ _ _ _ _ _ _ (ho_x0_w6.rd ((unhide HOKW).more (by omega)))).mono ?_
  rintro e w7 ⟨rfl, hb_w7⟩
  have hk_aW_w7 := blk_next hk_aW_w6 hb_w7
  have hk_x0_w7 := blk_next hk_x0_w6 hb_w7
  have ho_x0_w7 := ho_x0_w6.below hb_w7
  have hbw_w7 : Below w.heap.size w w7 := hbw_w6.trans (Below.mono hb_w7 hsw_w6)
  have hsw_w7 := hbw_w7.size
  have hch_w7 : w6.heap.size ≤ w7.heap.size := hb_w7.size
  clear hk_aW_w6 hk_x0_w6 ho_x0_w6 hbw_w6 hsw_w6 hb_w7
  obtain ⟨hx0_aW, hx1_aW, hx2_aW, hx3_aW, hx4_aW, hx5_aW, hx6_aW, hx7_aW, hx8_aW, hx9_aW, hxl_aW⟩ := blk10 hk_aW_w7
  obtain ⟨hx0_x0, hx1_x0, hx2_x0, hx3_x0, hx4_x0, hx5_x0, hx6_x0, hx7_x0, hx8_x0, hx9_x0, hxl_x0⟩ := blk10 hk_x0_w7
  go_wp2_with fail
  have hS_c := hSW.below hbw_w7
  go_region_held3 (fun W => (∀ b o, b < w7.heap.size → W.cell? ⟨b, o, none⟩ = (w7).cell? ⟨b, o, none⟩) ∧ (∀ b o, b < w7.heap.size → W.frozen? ⟨b, o, none⟩ = (w7).frozen? ⟨b, o, none⟩) ∧ Below (w7.heap.size) (w7) W) (exact keep_of bel) (first | (go_at_call 17; have hq := (‹_ ∧ _ ∧ Below _ _ _›).2.2; refine (u_toWorkshop d1 f1 ss1 d2 f2 ss2 st P pp m w.heap.size A1 A2 A3 A4 A5 c1 c2 c3 c4 c5 _ ?_ ?_).mono ?_; exact hS_c.below (hq.mono hsw_w7); exact Nat.le_trans hsw_w7 hq.size; rintro e wa_w8 ⟨A1_aw8, c1_aw8, A2_aw8, c2_aw8, A3_aw8, c3_aw8, A4_aw8, c4_aw8, A5_aw8, c5_aw8, rfl, hoa, hba⟩) | (go_at_call 19; have hq2 := (‹_ ∧ _ ∧ Below _ _ _›).2.2; (first | refine (u_eqWorkshop d1 f1 ss1 d2 f2 ss2 st P pp m _ _ _ _ _ _ _ _ _ _ _ _ _ _ _ _ _ _ _ _ _ _ _ _ _ (ho_x0_w7.below hq2) hoa ((unhide HOKW).more (by omega))).mono ?_ | refine (u_eqWorkshop d1 f1 ss1 d2 f2 ss2 st P pp m _ _ _ _ _ _ _ _ _ _ _ _ _ _ _ _ _ _ _ _ _ _ _ _ _ (ho_x0_w7.below hq2) hoa.drew ((unhide HOKW).more (by omega))).mono ?_); rintro e w8 ⟨rfl, hbz⟩))
  have hb67 : Below w7.heap.size w7 wa_w8 := (Below.refl _ _).drew.trans hba
  have hz7 : w7.heap.size ≤ wa_w8.heap.size := hba.size
  have hb68 : Below w7.heap.size w7 w8 := hb67.trans (hbz.mono hz7)
  clear hS_c hoa hba hbz hb67 hz7
  clear hx0_aW hx1_aW hx2_aW hx3_aW hx4_aW hx5_aW hx6_aW hx7_aW hx8_aW hx9_aW hxl_aW hx0_x0 hx1_x0 hx2_x0 hx3_x0 hx4_x0 hx5_x0 hx6_x0 hx7_x0 hx8_x0 hx9_x0 hxl_x0
  have hk_aW_w8 := blk_next hk_aW_w7 hb68
  have hk_x0_w8 := blk_next hk_x0_w7 hb68
  have ho_x0_w8 := ho_x0_w7.below hb68
  have hbw_w8 : Below w.heap.size w w8 := hbw_w7.trans (Below.mono hb68 hsw_w7)
  have hsw_w8 := hbw_w8.size
  have hch_w8 : w7.heap.size ≤ w8.heap.size := hb68.size
  clear hk_aW_w7 hk_x0_w7 ho_x0_w7 hbw_w7 hsw_w7 hb68
  go_wp2
  go_ret
  exact ⟨rfl, hbw_w8⟩
end Go.Proofs.YtdddglihomchfaaGreat.fnExactWorkshopOk
