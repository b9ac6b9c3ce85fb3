/- The walk of FnExactFormatWorkshop, for arguments that are not too large. -/
import Derived.Deep.DeepCutAuto
import Derived.Deep.RegionHeld3
import Derived.Deep.Slices
import Derived.Lib.SmallJoins
import Derived.SliceStrings
import Derived.Test.YtlimlolciekimaaGreatDoorRows
import Derived.Test.YtlimlolciekimaaGreatDoorQFar
import Derived.Test.YtlimlolciekimaaGreatDoorQFm
import Derived.Test.YtlimlolciekimaaGreatDoorQFas
import Derived.Test.YtlimlolciekimaaGreatDoorQFb
namespace Go.Proofs.YtlimlolciekimaaGreatDoor.fnExactFormatWorkshop
open Go.ChangeShapes Go.WideShapes Go.ChangeAt Go.RowKit Go.Joins Go.WideMaps Go.WideElems
open Go.ChangeMaps (open_string shut_string)
set_option linter.unusedVariables false
set_option maxRecDepth 100000 in
set_option maxHeartbeats 16000000 in
theorem walkFormatWorkshop (d1 f1 : Int) (ss1 : List ByteArray) (d2 f2 : Int) (ss2 : List ByteArray) (st : List PStep) (P : List PItem) (pp : List PPaper) (m : Int) (A1 A2 A3 A4 A5 : Option Addr) (c1 c2 c3 c4 c5 : Nat) (w : World) (hSW : RdWork0 w w.heap.size A1 A2 A3 A4 A5 (PDraft.mk d1 f1 ss1 d2 f2 ss2 st) P pp) (hnW : OkWork (PDraft.mk d1 f1 ss1 d2 f2 ss2 st) P pp 1048576) (hT : Tab w) (hz1 : 0 ≤ szW (PDraft.mk d1 f1 ss1 d2 f2 ss2 st) P pp (1048576)) :
    Calls Tryz.prog 4 #[.agg #[.int .i64 d1, .int .i64 f1, .slice A1 ss1.length c1, .int .i64 d2, .int .i64 f2, .slice A2 ss2.length c2, .slice A3 st.length c3, .slice A4 P.length c4, .slice A5 pp.length c5, .int .i64 m]] w fun e w' => e = .returned (.bool true) ∧ Below w.heap.size w w' := by
  have hokW : OkWork (PDraft.mk d1 f1 ss1 d2 f2 ss2 st) P pp 1048576 := hnW
  have hrok : OkS (shopR (PWork.mk (PDraft.mk d1 f1 ss1 d2 f2 ss2 st) P pp m)) 1048576 := by
    exact shopR_ok (PWork.mk (PDraft.mk d1 f1 ss1 d2 f2 ss2 st) P pp m)
  have hspec := fun (W : World) (A1_0W : Option Addr) (c1_0W : Nat) (A2_0W : Option Addr) (c2_0W : Nat) (A3_0W : Option Addr) (c3_0W : Nat) (A4_0W : Option Addr) (c4_0W : Nat) (A5_0W : Option Addr) (c5_0W : Nat) (l_0W u_0W : Nat) (h_0W : OwnW W l_0W u_0W A1_0W c1_0W A2_0W c2_0W A3_0W c3_0W A4_0W c4_0W A5_0W c5_0W (PDraft.mk d1 f1 ss1 d2 f2 ss2 st) P pp) (hT_0W : Tab W) => (s_FormatWorkshop d1 f1 ss1 d2 f2 ss2 st P pp m W.heap.size A1_0W A2_0W A3_0W A4_0W A5_0W c1_0W c2_0W c3_0W c4_0W c5_0W W (h_0W.rd (hokW.more (by omega))) (Nat.le_refl _)).mono (fun _ _ h => UStrs.of h)
  have himpl := fun (W : World) (A1_0W : Option Addr) (c1_0W : Nat) (A2_0W : Option Addr) (c2_0W : Nat) (A3_0W : Option Addr) (c3_0W : Nat) (A4_0W : Option Addr) (c4_0W : Nat) (A5_0W : Option Addr) (c5_0W : Nat) (l_0W u_0W : Nat) (h_0W : OwnW W l_0W u_0W A1_0W c1_0W A2_0W c2_0W A3_0W c3_0W A4_0W c4_0W A5_0W c5_0W (PDraft.mk d1 f1 ss1 d2 f2 ss2 st) P pp) (hT_0W : Tab W) => (i_FormatWorkshopR d1 f1 ss1 d2 f2 ss2 st P pp m l_0W u_0W A1_0W A2_0W A3_0W A4_0W A5_0W c1_0W c2_0W c3_0W c4_0W c5_0W W h_0W hokW hT_0W).mono (fun _ _ h => UStrs.of h)
  generalize hgen0 : (shopR (PWork.mk (PDraft.mk d1 f1 ss1 d2 f2 ss2 st) P pp m)) = xr at hspec himpl hrok
  clear hgen0
  have HSPEC := hide hspec
  have HIMPL := hide himpl
  clear hspec himpl
  have HOKW := hide hokW
  clear hokW
  have HOKR := hide hrok
  clear hrok
  go_enter Tryz.func4, Tryz.ntmps4
  go_wp2_with fail
  have hk_aW_w1 := (blk_new_at w (.cells #[.int .i64 d1, .int .i64 f1, .slice A1 ss1.length c1, .int .i64 d2, .int .i64 f2, .slice A2 ss2.length c2, .slice A3 st.length c3, .slice A4 P.length c4, .slice A5 pp.length c5, .int .i64 m] 51) (k := w.heap.size) (by simp))
  have hbw_w1 : Below w.heap.size w (w.alloc (.cells #[.int .i64 d1, .int .i64 f1, .slice A1 ss1.length c1, .int .i64 d2, .int .i64 f2, .slice A2 ss2.length c2, .slice A3 st.length c3, .slice A4 P.length c4, .slice A5 pp.length c5, .int .i64 m] 51)) := bel
  have hsw_w1 := hbw_w1.size
  have hch_w1 : w.heap.size + 1 ≤ (w.alloc (.cells #[.int .i64 d1, .int .i64 f1, .slice A1 ss1.length c1, .int .i64 d2, .int .i64 f2, .slice A2 ss2.length c2, .slice A3 st.length c3, .slice A4 P.length c4, .slice A5 pp.length c5, .int .i64 m] 51)).heap.size := (by simp; try omega)
  generalize (w.alloc (.cells #[.int .i64 d1, .int .i64 f1, .slice A1 ss1.length c1, .int .i64 d2, .int .i64 f2, .slice A2 ss2.length c2, .slice A3 st.length c3, .slice A4 P.length c4, .slice A5 pp.length c5, .int .i64 m] 51)) = w1 at *
  refine (l_szWorkshop d1 f1 ss1 d2 f2 ss2 st P pp m w.heap.size A1 A2 A3 A4 A5 c1 c2 c3 c4 c5 (1048576) _ hsw_w1 (hSW.raw.below hbw_w1) (by omega) (by omega)).mono ?_
  rintro e w2 ⟨rfl, hb_w2⟩
  have hk_aW_w2 := blk_next hk_aW_w1 hb_w2
  have hbw_w2 : Below w.heap.size w w2 := hbw_w1.trans (Below.mono hb_w2 hsw_w1)
  have hsw_w2 := hbw_w2.size
  have hch_w2 : w1.heap.size ≤ w2.heap.size := hb_w2.size
  clear hk_aW_w1 hbw_w1 hsw_w1 hb_w2
  have hub_w2 : szW (PDraft.mk d1 f1 ss1 d2 f2 ss2 st) P pp (1048576) ≤ 1048576 := szW_ub _ _ _ _ (by omega)
  obtain ⟨hx0_aW, hx1_aW, hx2_aW, hx3_aW, hx4_aW, hx5_aW, hx6_aW, hx7_aW, hx8_aW, hx9_aW, hxl_aW⟩ := blk10 hk_aW_w2
  go_wp2_with fail
  refine (u_toWorkshop d1 f1 ss1 d2 f2 ss2 st P pp m w.heap.size A1 A2 A3 A4 A5 c1 c2 c3 c4 c5 _ (hSW.below hbw_w2) hsw_w2).mono ?_
  rintro e w3 ⟨A1_t1_0, c1_t1_0, A2_t1_0, c2_t1_0, A3_t1_0, c3_t1_0, A4_t1_0, c4_t1_0, A5_t1_0, c5_t1_0, rfl, hon, hb_w3⟩
  clear hx0_aW hx1_aW hx2_aW hx3_aW hx4_aW hx5_aW hx6_aW hx7_aW hx8_aW hx9_aW hxl_aW
  have hk_aW_w3 := blk_next hk_aW_w2 hb_w3
  have hbw_w3 : Below w.heap.size w w3 := hbw_w2.trans (Below.mono hb_w3 hsw_w2)
  have hsw_w3 := hbw_w3.size
  have hch_w3 : w2.heap.size ≤ w3.heap.size := hb_w3.size
  clear hk_aW_w2 hbw_w2 hsw_w2 hb_w3
  have ho_t1_0_w3 := hon
  clear hon
  obtain ⟨hx0_aW, hx1_aW, hx2_aW, hx3_aW, hx4_aW, hx5_aW, hx6_aW, hx7_aW, hx8_aW, hx9_aW, hxl_aW⟩ := blk10 hk_aW_w3
  go_wp2_with fail
  refine (unhide HSPEC _ _ _ _ _ _ _ _ _ _ _ _ _ ho_t1_0_w3 (hT.below (by assumption))).mono ?_
  rintro e w4 ⟨A_w0, c_w0, rfl, hon, hb_w4⟩
  clear ho_t1_0_w3
  clear hx0_aW hx1_aW hx2_aW hx3_aW hx4_aW hx5_aW hx6_aW hx7_aW hx8_aW hx9_aW hxl_aW
  have hk_aW_w4 := blk_next hk_aW_w3 hb_w4
  have hbw_w4 : Below w.heap.size w w4 := hbw_w3.trans (Below.mono hb_w4 hsw_w3)
  have hsw_w4 := hbw_w4.size
  have hch_w4 : w3.heap.size ≤ w4.heap.size := hb_w4.size
  clear hk_aW_w3 hbw_w3 hsw_w3 hb_w4
  have ho_w0_w4 := hon
  clear hon
  obtain ⟨hx0_aW, hx1_aW, hx2_aW, hx3_aW, hx4_aW, hx5_aW, hx6_aW, hx7_aW, hx8_aW, hx9_aW, hxl_aW⟩ := blk10 hk_aW_w4
  go_wp2_with fail
  refine (u_toWorkshop d1 f1 ss1 d2 f2 ss2 st P pp m w.heap.size A1 A2 A3 A4 A5 c1 c2 c3 c4 c5 _ (hSW.below hbw_w4) hsw_w4).mono ?_
  rintro e w5 ⟨A1_x0, c1_x0, A2_x0, c2_x0, A3_x0, c3_x0, A4_x0, c4_x0, A5_x0, c5_x0, rfl, hon, hb_w5⟩
  clear hx0_aW hx1_aW hx2_aW hx3_aW hx4_aW hx5_aW hx6_aW hx7_aW hx8_aW hx9_aW hxl_aW
  have hk_aW_w5 := blk_next hk_aW_w4 hb_w5
  have ho_w0_w5 := ho_w0_w4.below hb_w5
  have hbw_w5 : Below w.heap.size w w5 := hbw_w4.trans (Below.mono hb_w5 hsw_w4)
  have hsw_w5 := hbw_w5.size
  have hch_w5 : w4.heap.size ≤ w5.heap.size := hb_w5.size
  clear hk_aW_w4 ho_w0_w4 hbw_w4 hsw_w4 hb_w5
  have ho_x0_w5 := hon
  clear hon
  go_wp2_with fail
  have hk_aW_w6 := (blk_alloc hk_aW_w5 (.cells #[.int .i64 d1, .int .i64 f1, .slice A1_x0 ss1.length c1_x0, .int .i64 d2, .int .i64 f2, .slice A2_x0 ss2.length c2_x0, .slice A3_x0 st.length c3_x0, .slice A4_x0 P.length c4_x0, .slice A5_x0 pp.length c5_x0, .int .i64 m] 33))
  have hk_x0_w6 := (blk_new_at w5 (.cells #[.int .i64 d1, .int .i64 f1, .slice A1_x0 ss1.length c1_x0, .int .i64 d2, .int .i64 f2, .slice A2_x0 ss2.length c2_x0, .slice A3_x0 st.length c3_x0, .slice A4_x0 P.length c4_x0, .slice A5_x0 pp.length c5_x0, .int .i64 m] 33) (k := w5.heap.size) (by simp))
  have ho_w0_w6 := (ho_w0_w5.alloc (.cells #[.int .i64 d1, .int .i64 f1, .slice A1_x0 ss1.length c1_x0, .int .i64 d2, .int .i64 f2, .slice A2_x0 ss2.length c2_x0, .slice A3_x0 st.length c3_x0, .slice A4_x0 P.length c4_x0, .slice A5_x0 pp.length c5_x0, .int .i64 m] 33))
  have ho_x0_w6 := (ho_x0_w5.alloc (.cells #[.int .i64 d1, .int .i64 f1, .slice A1_x0 ss1.length c1_x0, .int .i64 d2, .int .i64 f2, .slice A2_x0 ss2.length c2_x0, .slice A3_x0 st.length c3_x0, .slice A4_x0 P.length c4_x0, .slice A5_x0 pp.length c5_x0, .int .i64 m] 33))
  have hbw_w6 : Below w.heap.size w (w5.alloc (.cells #[.int .i64 d1, .int .i64 f1, .slice A1_x0 ss1.length c1_x0, .int .i64 d2, .int .i64 f2, .slice A2_x0 ss2.length c2_x0, .slice A3_x0 st.length c3_x0, .slice A4_x0 P.length c4_x0, .slice A5_x0 pp.length c5_x0, .int .i64 m] 33)) := bel
  have hsw_w6 := hbw_w6.size
  have hch_w6 : w5.heap.size + 1 ≤ (w5.alloc (.cells #[.int .i64 d1, .int .i64 f1, .slice A1_x0 ss1.length c1_x0, .int .i64 d2, .int .i64 f2, .slice A2_x0 ss2.length c2_x0, .slice A3_x0 st.length c3_x0, .slice A4_x0 P.length c4_x0, .slice A5_x0 pp.length c5_x0, .int .i64 m] 33)).heap.size := (by simp; try omega)
  generalize (w5.alloc (.cells #[.int .i64 d1, .int .i64 f1, .slice A1_x0 ss1.length c1_x0, .int .i64 d2, .int .i64 f2, .slice A2_x0 ss2.length c2_x0, .slice A3_x0 st.length c3_x0, .slice A4_x0 P.length c4_x0, .slice A5_x0 pp.length c5_x0, .int .i64 m] 33)) = w6 at *
  clear hk_aW_w5 ho_w0_w5 ho_x0_w5 hbw_w5 hsw_w5
  refine (unhide HIMPL _ _ _ _ _ _ _ _ _ _ _ _ _ ho_x0_w6 (hT.below (by assumption))).mono ?_
  rintro e w7 ⟨A_g0, c_g0, rfl, hon, hb_w7⟩
  have hk_aW_w7 := blk_next hk_aW_w6 hb_w7
  have hk_x0_w7 := blk_next hk_x0_w6 hb_w7
  have ho_w0_w7 := ho_w0_w6.below hb_w7
  have ho_x0_w7 := ho_x0_w6.below hb_w7
  have hbw_w7 : Below w.heap.size w w7 := hbw_w6.trans (Below.mono hb_w7 hsw_w6)
  have hsw_w7 := hbw_w7.size
  have hch_w7 : w6.heap.size ≤ w7.heap.size := hb_w7.size
  clear hk_aW_w6 hk_x0_w6 ho_w0_w6 ho_x0_w6 hbw_w6 hsw_w6 hb_w7
  have ho_g0_w7 := hon
  clear hon
  go_wp2_with fail
  refine (u_eqStringS xr _ _ _ _ _ _ _ _ _ ho_g0_w7 ho_w0_w7 ((unhide HOKR).more (by omega))).mono ?_
  rintro e w8 ⟨rfl, hb_w8⟩
  have hk_aW_w8 := blk_next hk_aW_w7 hb_w8
  have hk_x0_w8 := blk_next hk_x0_w7 hb_w8
  have ho_w0_w8 := ho_w0_w7.below hb_w8
  have ho_x0_w8 := ho_x0_w7.below hb_w8
  have ho_g0_w8 := ho_g0_w7.below hb_w8
  have hbw_w8 : Below w.heap.size w w8 := hbw_w7.trans (Below.mono hb_w8 hsw_w7)
  have hsw_w8 := hbw_w8.size
  have hch_w8 : w7.heap.size ≤ w8.heap.size := hb_w8.size
  clear hk_aW_w7 hk_x0_w7 ho_w0_w7 ho_x0_w7 ho_g0_w7 hbw_w7 hsw_w7 hb_w8
  obtain ⟨hx0_aW, hx1_aW, hx2_aW, hx3_aW, hx4_aW, hx5_aW, hx6_aW, hx7_aW, hx8_aW, hx9_aW, hxl_aW⟩ := blk10 hk_aW_w8
  obtain ⟨hx0_x0, hx1_x0, hx2_x0, hx3_x0, hx4_x0, hx5_x0, hx6_x0, hx7_x0, hx8_x0, hx9_x0, hxl_x0⟩ := blk10 hk_x0_w8
  go_wp2_with fail
  have hS_c := hSW.below hbw_w8
  go_region_held3 (fun W => (∀ b o, b < w8.heap.size → W.cell? ⟨b, o, none⟩ = (w8).cell? ⟨b, o, none⟩) ∧ (∀ b o, b < w8.heap.size → W.frozen? ⟨b, o, none⟩ = (w8).frozen? ⟨b, o, none⟩) ∧ Below (w8.heap.size) (w8) W) (exact keep_of bel) (first | (go_at_call 18; have hq := (‹_ ∧ _ ∧ Below _ _ _›).2.2; refine (u_toWorkshop d1 f1 ss1 d2 f2 ss2 st P pp m w.heap.size A1 A2 A3 A4 A5 c1 c2 c3 c4 c5 _ ?_ ?_).mono ?_; exact hS_c.below (hq.mono hsw_w8); exact Nat.le_trans hsw_w8 hq.size; rintro e wa_w9 ⟨A1_aw9, c1_aw9, A2_aw9, c2_aw9, A3_aw9, c3_aw9, A4_aw9, c4_aw9, A5_aw9, c5_aw9, rfl, hoa, hba⟩) | (go_at_call 20; have hq2 := (‹_ ∧ _ ∧ Below _ _ _›).2.2; (first | refine (u_eqWorkshop d1 f1 ss1 d2 f2 ss2 st P pp m _ _ _ _ _ _ _ _ _ _ _ _ _ _ _ _ _ _ _ _ _ _ _ _ _ (ho_x0_w8.below hq2) hoa ((unhide HOKW).more (by omega))).mono ?_ | refine (u_eqWorkshop d1 f1 ss1 d2 f2 ss2 st P pp m _ _ _ _ _ _ _ _ _ _ _ _ _ _ _ _ _ _ _ _ _ _ _ _ _ (ho_x0_w8.below hq2) hoa.drew ((unhide HOKW).more (by omega))).mono ?_); rintro e w9 ⟨rfl, hbz⟩))
  have hb67 : Below w8.heap.size w8 wa_w9 := (Below.refl _ _).drew.trans hba
  have hz7 : w8.heap.size ≤ wa_w9.heap.size := hba.size
  have hb68 : Below w8.heap.size w8 w9 := hb67.trans (hbz.mono hz7)
  clear hS_c hoa hba hbz hb67 hz7
  clear hx0_aW hx1_aW hx2_aW hx3_aW hx4_aW hx5_aW hx6_aW hx7_aW hx8_aW hx9_aW hxl_aW hx0_x0 hx1_x0 hx2_x0 hx3_x0 hx4_x0 hx5_x0 hx6_x0 hx7_x0 hx8_x0 hx9_x0 hxl_x0
  have hk_aW_w9 := blk_next hk_aW_w8 hb68
  have hk_x0_w9 := blk_next hk_x0_w8 hb68
  have ho_w0_w9 := ho_w0_w8.below hb68
  have ho_x0_w9 := ho_x0_w8.below hb68
  have ho_g0_w9 := ho_g0_w8.below hb68
  have hbw_w9 : Below w.heap.size w w9 := hbw_w8.trans (Below.mono hb68 hsw_w8)
  have hsw_w9 := hbw_w9.size
  have hch_w9 : w8.heap.size ≤ w9.heap.size := hb68.size
  clear hk_aW_w8 hk_x0_w8 ho_w0_w8 ho_x0_w8 ho_g0_w8 hbw_w8 hsw_w8 hb68
  obtain ⟨hx0_x0, hx1_x0, hx2_x0, hx3_x0, hx4_x0, hx5_x0, hx6_x0, hx7_x0, hx8_x0, hx9_x0, hxl_x0⟩ := blk10 hk_x0_w9
  go_wp2_with fail
  refine (u_markWorkshop d1 f1 ss1 d2 f2 ss2 st P pp m _ _ _ _ _ _ _ _ _ _ _ _ (1) _ ho_x0_w9 (by have hq1_HOKW := (unhide HOKW).d.l1; have hq2_HOKW := (unhide HOKW).d.l2; have hq3_HOKW := (unhide HOKW).d.l3; simp only at hq1_HOKW hq2_HOKW hq3_HOKW; have hq4_HOKW := cntI_le (unhide HOKW).i; have hq5_HOKW := (unhide HOKW).p; omega) (by have hq1_HOKW := (unhide HOKW).d.l1; have hq2_HOKW := (unhide HOKW).d.l2; have hq3_HOKW := (unhide HOKW).d.l3; simp only at hq1_HOKW hq2_HOKW hq3_HOKW; have hq4_HOKW := cntI_le (unhide HOKW).i; have hq5_HOKW := (unhide HOKW).p; omega) ((unhide HOKW).more (by omega))).mono ?_
  rintro e w10 ⟨rfl, hm_w10, hW_w10⟩
  clear hm_w10
  clear hx0_x0 hx1_x0 hx2_x0 hx3_x0 hx4_x0 hx5_x0 hx6_x0 hx7_x0 hx8_x0 hx9_x0 hxl_x0
  have hk_aW_w10 := hW_w10.box hk_aW_w9
  have hk_x0_w10 := hW_w10.box hk_x0_w9
  have ho_w0_w10 := ho_w0_w9.within hW_w10 (by omega)
  have ho_g0_w10 := ho_g0_w9.within hW_w10 (by omega)
  have hbw_w10 : Below w.heap.size w w10 := hbw_w9.trans (hW_w10.below (by omega) (by omega))
  have hsw_w10 := hbw_w10.size
  have hch_w10 : w9.heap.size ≤ w10.heap.size := hW_w10.size
  clear hk_aW_w9 hk_x0_w9 ho_w0_w9 ho_x0_w9 ho_g0_w9 hbw_w9 hsw_w9 hW_w10
  go_wp2_with fail
  refine (u_eqStringS xr _ _ _ _ _ _ _ _ _ ho_g0_w10 ho_w0_w10 ((unhide HOKR).more (by omega))).mono ?_
  rintro e w11 ⟨rfl, hb_w11⟩
  have hk_aW_w11 := blk_next hk_aW_w10 hb_w11
  have hk_x0_w11 := blk_next hk_x0_w10 hb_w11
  have ho_w0_w11 := ho_w0_w10.below hb_w11
  have ho_g0_w11 := ho_g0_w10.below hb_w11
  have hbw_w11 : Below w.heap.size w w11 := hbw_w10.trans (Below.mono hb_w11 hsw_w10)
  have hsw_w11 := hbw_w11.size
  have hch_w11 : w10.heap.size ≤ w11.heap.size := hb_w11.size
  clear hk_aW_w10 hk_x0_w10 ho_w0_w10 ho_g0_w10 hbw_w10 hsw_w10 hb_w11
  go_wp2_with fail
  refine (u_markStringSw xr _ _ _ _ (1) _ ho_g0_w11 (by have hq1_HOKW := (unhide HOKW).d.l1; have hq2_HOKW := (unhide HOKW).d.l2; have hq3_HOKW := (unhide HOKW).d.l3; simp only at hq1_HOKW hq2_HOKW hq3_HOKW; have hq4_HOKW := cntI_le (unhide HOKW).i; have hq5_HOKW := (unhide HOKW).p; have hq1_HOKR : xr.length ≤ 1048576 := (unhide HOKR).1; omega) (by have hq1_HOKW := (unhide HOKW).d.l1; have hq2_HOKW := (unhide HOKW).d.l2; have hq3_HOKW := (unhide HOKW).d.l3; simp only at hq1_HOKW hq2_HOKW hq3_HOKW; have hq4_HOKW := cntI_le (unhide HOKW).i; have hq5_HOKW := (unhide HOKW).p; have hq1_HOKR : xr.length ≤ 1048576 := (unhide HOKR).1; omega) ((unhide HOKR).more (by omega))).mono ?_
  rintro e w12 ⟨rfl, hm_w12, hW_w12⟩
  have hk_aW_w12 := hW_w12.box hk_aW_w11
  have hk_x0_w12 := hW_w12.box hk_x0_w11
  have ho_w0_w12 := ho_w0_w11.within hW_w12 (by omega)
  have hbw_w12 : Below w.heap.size w w12 := hbw_w11.trans (hW_w12.below (by omega) (by omega))
  have hsw_w12 := hbw_w12.size
  have hch_w12 : w11.heap.size ≤ w12.heap.size := hW_w12.size
  clear hk_aW_w11 hk_x0_w11 ho_w0_w11 ho_g0_w11 hbw_w11 hsw_w11 hW_w12
  have ho_g0_w12 := hm_w12
  clear hm_w12
  go_wp2_with fail
  refine (u_heldStringSw _ _ _ _ _ (1) _ ho_g0_w12 (by have hq1_HOKR : xr.length ≤ 1048576 := (unhide HOKR).1; omega) (by have hq1_HOKR : xr.length ≤ 1048576 := (unhide HOKR).1; omega) (by have hq1_HOKR : xr.length ≤ 1048576 := (unhide HOKR).1; omega)).mono ?_
  rintro e w13 ⟨rfl, hb_w13⟩
  have hk_aW_w13 := blk_next hk_aW_w12 hb_w13
  have hk_x0_w13 := blk_next hk_x0_w12 hb_w13
  have ho_w0_w13 := ho_w0_w12.below hb_w13
  have ho_g0_w13 := ho_g0_w12.below hb_w13
  have hbw_w13 : Below w.heap.size w w13 := hbw_w12.trans (Below.mono hb_w13 hsw_w12)
  have hsw_w13 := hbw_w13.size
  have hch_w13 : w12.heap.size ≤ w13.heap.size := hb_w13.size
  clear hk_aW_w12 hk_x0_w12 ho_w0_w12 ho_g0_w12 hbw_w12 hsw_w12 hb_w13
  obtain ⟨hx0_aW, hx1_aW, hx2_aW, hx3_aW, hx4_aW, hx5_aW, hx6_aW, hx7_aW, hx8_aW, hx9_aW, hxl_aW⟩ := blk10 hk_aW_w13
  go_wp2_with fail
  refine (u_toWorkshop d1 f1 ss1 d2 f2 ss2 st P pp m w.heap.size A1 A2 A3 A4 A5 c1 c2 c3 c4 c5 _ (hSW.below hbw_w13) hsw_w13).mono ?_
  rintro e w14 ⟨A1_t3_0, c1_t3_0, A2_t3_0, c2_t3_0, A3_t3_0, c3_t3_0, A4_t3_0, c4_t3_0, A5_t3_0, c5_t3_0, rfl, hon, hb_w14⟩
  clear hx0_aW hx1_aW hx2_aW hx3_aW hx4_aW hx5_aW hx6_aW hx7_aW hx8_aW hx9_aW hxl_aW
  have hk_aW_w14 := blk_next hk_aW_w13 hb_w14
  have hk_x0_w14 := blk_next hk_x0_w13 hb_w14
  have ho_w0_w14 := ho_w0_w13.below hb_w14
  have ho_g0_w14 := ho_g0_w13.below hb_w14
  have hbw_w14 : Below w.heap.size w w14 := hbw_w13.trans (Below.mono hb_w14 hsw_w13)
  have hsw_w14 := hbw_w14.size
  have hch_w14 : w13.heap.size ≤ w14.heap.size := hb_w14.size
  clear hk_aW_w13 hk_x0_w13 ho_w0_w13 ho_g0_w13 hbw_w13 hsw_w13 hb_w14
  have ho_t3_0_w14 := hon
  clear hon
  obtain ⟨hx0_aW, hx1_aW, hx2_aW, hx3_aW, hx4_aW, hx5_aW, hx6_aW, hx7_aW, hx8_aW, hx9_aW, hxl_aW⟩ := blk10 hk_aW_w14
  go_wp2_with fail
  refine (unhide HIMPL _ _ _ _ _ _ _ _ _ _ _ _ _ ho_t3_0_w14 (hT.below (by assumption))).mono ?_
  rintro e w15 ⟨A_h0, c_h0, rfl, hon, hb_w15⟩
  clear ho_t3_0_w14
  clear hx0_aW hx1_aW hx2_aW hx3_aW hx4_aW hx5_aW hx6_aW hx7_aW hx8_aW hx9_aW hxl_aW
  have hk_aW_w15 := blk_next hk_aW_w14 hb_w15
  have hk_x0_w15 := blk_next hk_x0_w14 hb_w15
  have ho_w0_w15 := ho_w0_w14.below hb_w15
  have ho_g0_w15 := ho_g0_w14.below hb_w15
  have hbw_w15 : Below w.heap.size w w15 := hbw_w14.trans (Below.mono hb_w15 hsw_w14)
  have hsw_w15 := hbw_w15.size
  have hch_w15 : w14.heap.size ≤ w15.heap.size := hb_w15.size
  clear hk_aW_w14 hk_x0_w14 ho_w0_w14 ho_g0_w14 hbw_w14 hsw_w14 hb_w15
  have ho_h0_w15 := hon
  clear hon
  go_wp2_with fail
  refine (u_eqStringS xr _ _ _ _ _ _ _ _ _ ho_h0_w15 ho_w0_w15 ((unhide HOKR).more (by omega))).mono ?_
  rintro e w16 ⟨rfl, hb_w16⟩
  have hk_aW_w16 := blk_next hk_aW_w15 hb_w16
  have hk_x0_w16 := blk_next hk_x0_w15 hb_w16
  have ho_w0_w16 := ho_w0_w15.below hb_w16
  have ho_g0_w16 := ho_g0_w15.below hb_w16
  have ho_h0_w16 := ho_h0_w15.below hb_w16
  have hbw_w16 : Below w.heap.size w w16 := hbw_w15.trans (Below.mono hb_w16 hsw_w15)
  have hsw_w16 := hbw_w16.size
  have hch_w16 : w15.heap.size ≤ w16.heap.size := hb_w16.size
  clear hk_aW_w15 hk_x0_w15 ho_w0_w15 ho_g0_w15 ho_h0_w15 hbw_w15 hsw_w15 hb_w16
  go_wp2_with fail
  refine (u_heldStringSw _ _ _ _ _ (1) _ ho_g0_w16 (by have hq1_HOKR : xr.length ≤ 1048576 := (unhide HOKR).1; omega) (by have hq1_HOKR : xr.length ≤ 1048576 := (unhide HOKR).1; omega) (by have hq1_HOKR : xr.length ≤ 1048576 := (unhide HOKR).1; omega)).mono ?_
  rintro e w17 ⟨rfl, hb_w17⟩
  have hk_aW_w17 := blk_next hk_aW_w16 hb_w17
  have hk_x0_w17 := blk_next hk_x0_w16 hb_w17
  have ho_w0_w17 := ho_w0_w16.below hb_w17
  have ho_g0_w17 := ho_g0_w16.below hb_w17
  have ho_h0_w17 := ho_h0_w16.below hb_w17
  have hbw_w17 : Below w.heap.size w w17 := hbw_w16.trans (Below.mono hb_w17 hsw_w16)
  have hsw_w17 := hbw_w17.size
  have hch_w17 : w16.heap.size ≤ w17.heap.size := hb_w17.size
  clear hk_aW_w16 hk_x0_w16 ho_w0_w16 ho_g0_w16 ho_h0_w16 hbw_w16 hsw_w16 hb_w17
  go_wp2
  go_ret
  exact ⟨rfl, hbw_w17⟩
end Go.Proofs.YtlimlolciekimaaGreatDoor.fnExactFormatWorkshop
