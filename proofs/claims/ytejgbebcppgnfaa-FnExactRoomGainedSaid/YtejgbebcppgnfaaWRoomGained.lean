/- The walk of FnExactRoomGained, for arguments that are not too large. -/
import Derived.Test.YtejgbebcppgnfaaRoom
import Derived.Test.YtejgbebcppgnfaaDraft3
import Derived.Test.YtejgbebcppgnfaaLift
import Derived.Test.YtejgbebcppgnfaaLawKit3
import Derived.Deep.Slices
import Derived.SliceStrings
import Derived.Lib.SmallJoins
import Derived.Deep.DeepCutAuto
import Derived.Deep.RegionHeld3
namespace Go.Proofs.Ytejgbebcppgnfaa.fnExactRoomGained
open Go.ChangeShapes Go.WideShapes Go.ChangeAt Go.RowKit Go.Joins Go.WideMaps Go.WideElems
open Go.ChangeMaps (open_string shut_string)
set_option linter.unusedVariables false

set_option maxRecDepth 100000 in
set_option maxHeartbeats 8000000 in
theorem walkRoomGained (d1 f1 : Int) (ss1 : List ByteArray) (d2 f2 : Int) (ss2 : List ByteArray) (st : List PStep) (A1 A2 A3 : Option Addr) (c1 c2 c3 : Nat) (w : World) (hSD : RdDraft w w.heap.size A1 A2 A3 (PDraft.mk d1 f1 ss1 d2 f2 ss2 st)) (hnD : OkDraft (PDraft.mk d1 f1 ss1 d2 f2 ss2 st) 1048576) (hz1 : 0 ≤ szD (PDraft.mk d1 f1 ss1 d2 f2 ss2 st) (1048576)) :
    Calls Try.prog 4 #[.agg #[.int .i64 d1, .int .i64 f1, .slice A1 ss1.length c1, .int .i64 d2, .int .i64 f2, .slice A2 ss2.length c2, .slice A3 st.length c3]] w fun e w' => e = .returned (.bool true) ∧ Below w.heap.size w w' := by
  have hspec := fun (W : World) (A01 A02 A03 : Option Addr) (c01 c02 c03 : Nat) (hD : RdDraft W W.heap.size A01 A02 A03 (PDraft.mk d1 f1 ss1 d2 f2 ss2 st)) => s_RoomGained (PDraft.mk d1 f1 ss1 d2 f2 ss2 st) W.heap.size A01 A02 A03 c01 c02 c03 W hD (Nat.le_refl _)
  have himpl := fun (W : World) (A01 A02 A03 : Option Addr) (c01 c02 c03 : Nat) (hD : RdDraft W W.heap.size A01 A02 A03 (PDraft.mk d1 f1 ss1 d2 f2 ss2 st)) => i_RoomGained (PDraft.mk d1 f1 ss1 d2 f2 ss2 st) W.heap.size A01 A02 A03 c01 c02 c03 W hD (Nat.le_refl _)
  generalize hgen0 : (gainOf (PDraft.mk d1 f1 ss1 d2 f2 ss2 st)) = rv at hspec himpl
  clear hgen0
  have HSPEC := hide hspec
  have HIMPL := hide himpl
  clear hspec himpl
  go_enter Try.func4, Try.ntmps4
  go_wp2_with fail
  have hk_aD_w1 := (blk_new_at w (.cells #[.int .i64 d1, .int .i64 f1, .slice A1 ss1.length c1, .int .i64 d2, .int .i64 f2, .slice A2 ss2.length c2, .slice A3 st.length c3] 27) (k := w.heap.size) (by simp))
  have hbw_w1 : Below w.heap.size w (w.alloc (.cells #[.int .i64 d1, .int .i64 f1, .slice A1 ss1.length c1, .int .i64 d2, .int .i64 f2, .slice A2 ss2.length c2, .slice A3 st.length c3] 27)) := (by repeat (first | (with_reducible exact Below.refl _ _) | (with_reducible assumption) | (with_reducible exact (‹_ ∧ _ ∧ Below _ _ _›).2.2) | (with_reducible refine below_drewN ?_ _) | (with_reducible refine Below.drew ?_) | ((with_reducible refine Below.alloc ?_ ?hsd _); (case hsd => (first | exact Nat.le_refl _ | (simp; done) | omega | (simp; omega) | exact (‹_ ∧ _ ∧ Below _ _ _›).2.2.size))) | ((with_reducible refine Below.setCell ?_ ?hsd _); (case hsd => (first | exact Nat.le_refl _ | (simp; done) | omega | (simp; omega) | exact (‹_ ∧ _ ∧ Below _ _ _›).2.2.size))) | ((with_reducible refine Below.trans ?_ (Below.mono (by with_reducible assumption) ?hsd)); (case hsd => (first | exact Nat.le_refl _ | (simp; done) | omega | (simp; omega) | exact (‹_ ∧ _ ∧ Below _ _ _›).2.2.size))) | exact Below.refl _ _ | assumption | exact (‹_ ∧ _ ∧ Below _ _ _›).2.2 | refine below_drewN ?_ _ | refine Below.drew ?_ | refine Below.alloc ?_ (by first | exact Nat.le_refl _ | (simp; done) | omega | (simp; omega) | exact (‹_ ∧ _ ∧ Below _ _ _›).2.2.size) _ | refine Below.setCell ?_ (by first | exact Nat.le_refl _ | (simp; done) | omega | (simp; omega) | exact (‹_ ∧ _ ∧ Below _ _ _›).2.2.size) _ | refine Below.trans ?_ (Below.mono (by assumption) (by first | exact Nat.le_refl _ | (simp; done) | omega | (simp; omega) | exact (‹_ ∧ _ ∧ Below _ _ _›).2.2.size))))
  have hsw_w1 := hbw_w1.size
  have hzz_w1 : w.heap.size ≤ (w.alloc (.cells #[.int .i64 d1, .int .i64 f1, .slice A1 ss1.length c1, .int .i64 d2, .int .i64 f2, .slice A2 ss2.length c2, .slice A3 st.length c3] 27)).heap.size := (by simp; try omega)
  generalize (w.alloc (.cells #[.int .i64 d1, .int .i64 f1, .slice A1 ss1.length c1, .int .i64 d2, .int .i64 f2, .slice A2 ss2.length c2, .slice A3 st.length c3] 27)) = w1 at *
  refine (l_szDraft2 (PDraft.mk d1 f1 ss1 d2 f2 ss2 st) w.heap.size A1 A2 A3 c1 c2 c3 (1048576) _ hsw_w1 (hSD.raw.below hbw_w1) (by omega) (by omega)).mono ?_
  rintro e w2 ⟨rfl, hb_w2⟩
  have hk_aD_w2 := blk_next hk_aD_w1 hb_w2
  have hbw_w2 : Below w.heap.size w w2 := (by repeat (first | (with_reducible exact Below.refl _ _) | (with_reducible assumption) | (with_reducible exact (‹_ ∧ _ ∧ Below _ _ _›).2.2) | (with_reducible refine below_drewN ?_ _) | (with_reducible refine Below.drew ?_) | ((with_reducible refine Below.alloc ?_ ?hsd _); (case hsd => (first | exact Nat.le_refl _ | (simp; done) | omega | (simp; omega) | exact (‹_ ∧ _ ∧ Below _ _ _›).2.2.size))) | ((with_reducible refine Below.setCell ?_ ?hsd _); (case hsd => (first | exact Nat.le_refl _ | (simp; done) | omega | (simp; omega) | exact (‹_ ∧ _ ∧ Below _ _ _›).2.2.size))) | ((with_reducible refine Below.trans ?_ (Below.mono (by with_reducible assumption) ?hsd)); (case hsd => (first | exact Nat.le_refl _ | (simp; done) | omega | (simp; omega) | exact (‹_ ∧ _ ∧ Below _ _ _›).2.2.size))) | exact Below.refl _ _ | assumption | exact (‹_ ∧ _ ∧ Below _ _ _›).2.2 | refine below_drewN ?_ _ | refine Below.drew ?_ | refine Below.alloc ?_ (by first | exact Nat.le_refl _ | (simp; done) | omega | (simp; omega) | exact (‹_ ∧ _ ∧ Below _ _ _›).2.2.size) _ | refine Below.setCell ?_ (by first | exact Nat.le_refl _ | (simp; done) | omega | (simp; omega) | exact (‹_ ∧ _ ∧ Below _ _ _›).2.2.size) _ | refine Below.trans ?_ (Below.mono (by assumption) (by first | exact Nat.le_refl _ | (simp; done) | omega | (simp; omega) | exact (‹_ ∧ _ ∧ Below _ _ _›).2.2.size))))
  have hsw_w2 := hbw_w2.size
  clear hk_aD_w1 hbw_w1 hsw_w1 hb_w2
  have hub_w2 : szD (PDraft.mk d1 f1 ss1 d2 f2 ss2 st) (1048576) ≤ 1048576 := szD_ub _ _ (by omega)
  obtain ⟨hx0_aD, hx1_aD, hx2_aD, hx3_aD, hx4_aD, hx5_aD, hx6_aD, hxl_aD⟩ := blk7 hk_aD_w2
  go_wp2_with fail
  refine (l_toDraft2 d1 f1 ss1 d2 f2 ss2 st w.heap.size A1 A2 A3 c1 c2 c3 _ (hSD.below hbw_w2) hsw_w2).mono ?_
  rintro e w3 ⟨At1_0_1, ct1_0_1, At1_0_2, ct1_0_2, At1_0_3, ct1_0_3, rfl, hon, hb_w3⟩
  clear hx0_aD hx1_aD hx2_aD hx3_aD hx4_aD hx5_aD hx6_aD hxl_aD
  have hk_aD_w3 := blk_next hk_aD_w2 hb_w3
  have hbw_w3 : Below w.heap.size w w3 := (by repeat (first | (with_reducible exact Below.refl _ _) | (with_reducible assumption) | (with_reducible exact (‹_ ∧ _ ∧ Below _ _ _›).2.2) | (with_reducible refine below_drewN ?_ _) | (with_reducible refine Below.drew ?_) | ((with_reducible refine Below.alloc ?_ ?hsd _); (case hsd => (first | exact Nat.le_refl _ | (simp; done) | omega | (simp; omega) | exact (‹_ ∧ _ ∧ Below _ _ _›).2.2.size))) | ((with_reducible refine Below.setCell ?_ ?hsd _); (case hsd => (first | exact Nat.le_refl _ | (simp; done) | omega | (simp; omega) | exact (‹_ ∧ _ ∧ Below _ _ _›).2.2.size))) | ((with_reducible refine Below.trans ?_ (Below.mono (by with_reducible assumption) ?hsd)); (case hsd => (first | exact Nat.le_refl _ | (simp; done) | omega | (simp; omega) | exact (‹_ ∧ _ ∧ Below _ _ _›).2.2.size))) | exact Below.refl _ _ | assumption | exact (‹_ ∧ _ ∧ Below _ _ _›).2.2 | refine below_drewN ?_ _ | refine Below.drew ?_ | refine Below.alloc ?_ (by first | exact Nat.le_refl _ | (simp; done) | omega | (simp; omega) | exact (‹_ ∧ _ ∧ Below _ _ _›).2.2.size) _ | refine Below.setCell ?_ (by first | exact Nat.le_refl _ | (simp; done) | omega | (simp; omega) | exact (‹_ ∧ _ ∧ Below _ _ _›).2.2.size) _ | refine Below.trans ?_ (Below.mono (by assumption) (by first | exact Nat.le_refl _ | (simp; done) | omega | (simp; omega) | exact (‹_ ∧ _ ∧ Below _ _ _›).2.2.size))))
  have hsw_w3 := hbw_w3.size
  clear hk_aD_w2 hbw_w2 hsw_w2 hb_w3
  have ho_t1_0_w3 := hon
  clear hon
  go_wp2_with fail
  refine (unhide HSPEC _ _ _ _ _ _ _ (OwnDraft.rd ho_t1_0_w3 (hnD.more (by omega)))).mono ?_
  rintro e w4 ⟨rfl, hb_w4⟩
  clear ho_t1_0_w3
  have hk_aD_w4 := blk_next hk_aD_w3 hb_w4
  have hbw_w4 : Below w.heap.size w w4 := (by repeat (first | (with_reducible exact Below.refl _ _) | (with_reducible assumption) | (with_reducible exact (‹_ ∧ _ ∧ Below _ _ _›).2.2) | (with_reducible refine below_drewN ?_ _) | (with_reducible refine Below.drew ?_) | ((with_reducible refine Below.alloc ?_ ?hsd _); (case hsd => (first | exact Nat.le_refl _ | (simp; done) | omega | (simp; omega) | exact (‹_ ∧ _ ∧ Below _ _ _›).2.2.size))) | ((with_reducible refine Below.setCell ?_ ?hsd _); (case hsd => (first | exact Nat.le_refl _ | (simp; done) | omega | (simp; omega) | exact (‹_ ∧ _ ∧ Below _ _ _›).2.2.size))) | ((with_reducible refine Below.trans ?_ (Below.mono (by with_reducible assumption) ?hsd)); (case hsd => (first | exact Nat.le_refl _ | (simp; done) | omega | (simp; omega) | exact (‹_ ∧ _ ∧ Below _ _ _›).2.2.size))) | exact Below.refl _ _ | assumption | exact (‹_ ∧ _ ∧ Below _ _ _›).2.2 | refine below_drewN ?_ _ | refine Below.drew ?_ | refine Below.alloc ?_ (by first | exact Nat.le_refl _ | (simp; done) | omega | (simp; omega) | exact (‹_ ∧ _ ∧ Below _ _ _›).2.2.size) _ | refine Below.setCell ?_ (by first | exact Nat.le_refl _ | (simp; done) | omega | (simp; omega) | exact (‹_ ∧ _ ∧ Below _ _ _›).2.2.size) _ | refine Below.trans ?_ (Below.mono (by assumption) (by first | exact Nat.le_refl _ | (simp; done) | omega | (simp; omega) | exact (‹_ ∧ _ ∧ Below _ _ _›).2.2.size))))
  have hsw_w4 := hbw_w4.size
  clear hk_aD_w3 hbw_w3 hsw_w3 hb_w4
  obtain ⟨hx0_aD, hx1_aD, hx2_aD, hx3_aD, hx4_aD, hx5_aD, hx6_aD, hxl_aD⟩ := blk7 hk_aD_w4
  go_wp2_with fail
  refine (l_toDraft2 d1 f1 ss1 d2 f2 ss2 st w.heap.size A1 A2 A3 c1 c2 c3 _ (hSD.below hbw_w4) hsw_w4).mono ?_
  rintro e w5 ⟨Ax0_1, cx0_1, Ax0_2, cx0_2, Ax0_3, cx0_3, rfl, hon, hb_w5⟩
  have hbase_x0 : w.heap.size ≤ w4.heap.size := hsw_w4
  clear hx0_aD hx1_aD hx2_aD hx3_aD hx4_aD hx5_aD hx6_aD hxl_aD
  have hk_aD_w5 := blk_next hk_aD_w4 hb_w5
  have hbw_w5 : Below w.heap.size w w5 := (by repeat (first | (with_reducible exact Below.refl _ _) | (with_reducible assumption) | (with_reducible exact (‹_ ∧ _ ∧ Below _ _ _›).2.2) | (with_reducible refine below_drewN ?_ _) | (with_reducible refine Below.drew ?_) | ((with_reducible refine Below.alloc ?_ ?hsd _); (case hsd => (first | exact Nat.le_refl _ | (simp; done) | omega | (simp; omega) | exact (‹_ ∧ _ ∧ Below _ _ _›).2.2.size))) | ((with_reducible refine Below.setCell ?_ ?hsd _); (case hsd => (first | exact Nat.le_refl _ | (simp; done) | omega | (simp; omega) | exact (‹_ ∧ _ ∧ Below _ _ _›).2.2.size))) | ((with_reducible refine Below.trans ?_ (Below.mono (by with_reducible assumption) ?hsd)); (case hsd => (first | exact Nat.le_refl _ | (simp; done) | omega | (simp; omega) | exact (‹_ ∧ _ ∧ Below _ _ _›).2.2.size))) | exact Below.refl _ _ | assumption | exact (‹_ ∧ _ ∧ Below _ _ _›).2.2 | refine below_drewN ?_ _ | refine Below.drew ?_ | refine Below.alloc ?_ (by first | exact Nat.le_refl _ | (simp; done) | omega | (simp; omega) | exact (‹_ ∧ _ ∧ Below _ _ _›).2.2.size) _ | refine Below.setCell ?_ (by first | exact Nat.le_refl _ | (simp; done) | omega | (simp; omega) | exact (‹_ ∧ _ ∧ Below _ _ _›).2.2.size) _ | refine Below.trans ?_ (Below.mono (by assumption) (by first | exact Nat.le_refl _ | (simp; done) | omega | (simp; omega) | exact (‹_ ∧ _ ∧ Below _ _ _›).2.2.size))))
  have hsw_w5 := hbw_w5.size
  clear hk_aD_w4 hbw_w4 hsw_w4 hb_w5
  have ho_x0_w5 := hon
  clear hon
  obtain ⟨hx0_aD, hx1_aD, hx2_aD, hx3_aD, hx4_aD, hx5_aD, hx6_aD, hxl_aD⟩ := blk7 hk_aD_w5
  go_wp2_with fail
  clear hx0_aD hx1_aD hx2_aD hx3_aD hx4_aD hx5_aD hx6_aD hxl_aD
  have hk_aD_w6 := (blk_alloc hk_aD_w5 (.cells #[.int .i64 d1, .int .i64 f1, .slice Ax0_1 ss1.length cx0_1, .int .i64 d2, .int .i64 f2, .slice Ax0_2 ss2.length cx0_2, .slice Ax0_3 st.length cx0_3] 33))
  have hk_x0_w6 := (blk_new_at w5 (.cells #[.int .i64 d1, .int .i64 f1, .slice Ax0_1 ss1.length cx0_1, .int .i64 d2, .int .i64 f2, .slice Ax0_2 ss2.length cx0_2, .slice Ax0_3 st.length cx0_3] 33) (k := w5.heap.size) (by simp))
  have ho_x0_w6 := (ho_x0_w5.alloc (.cells #[.int .i64 d1, .int .i64 f1, .slice Ax0_1 ss1.length cx0_1, .int .i64 d2, .int .i64 f2, .slice Ax0_2 ss2.length cx0_2, .slice Ax0_3 st.length cx0_3] 33))
  have hbw_w6 : Below w.heap.size w (w5.alloc (.cells #[.int .i64 d1, .int .i64 f1, .slice Ax0_1 ss1.length cx0_1, .int .i64 d2, .int .i64 f2, .slice Ax0_2 ss2.length cx0_2, .slice Ax0_3 st.length cx0_3] 33)) := (by repeat (first | (with_reducible exact Below.refl _ _) | (with_reducible assumption) | (with_reducible exact (‹_ ∧ _ ∧ Below _ _ _›).2.2) | (with_reducible refine below_drewN ?_ _) | (with_reducible refine Below.drew ?_) | ((with_reducible refine Below.alloc ?_ ?hsd _); (case hsd => (first | exact Nat.le_refl _ | (simp; done) | omega | (simp; omega) | exact (‹_ ∧ _ ∧ Below _ _ _›).2.2.size))) | ((with_reducible refine Below.setCell ?_ ?hsd _); (case hsd => (first | exact Nat.le_refl _ | (simp; done) | omega | (simp; omega) | exact (‹_ ∧ _ ∧ Below _ _ _›).2.2.size))) | ((with_reducible refine Below.trans ?_ (Below.mono (by with_reducible assumption) ?hsd)); (case hsd => (first | exact Nat.le_refl _ | (simp; done) | omega | (simp; omega) | exact (‹_ ∧ _ ∧ Below _ _ _›).2.2.size))) | exact Below.refl _ _ | assumption | exact (‹_ ∧ _ ∧ Below _ _ _›).2.2 | refine below_drewN ?_ _ | refine Below.drew ?_ | refine Below.alloc ?_ (by first | exact Nat.le_refl _ | (simp; done) | omega | (simp; omega) | exact (‹_ ∧ _ ∧ Below _ _ _›).2.2.size) _ | refine Below.setCell ?_ (by first | exact Nat.le_refl _ | (simp; done) | omega | (simp; omega) | exact (‹_ ∧ _ ∧ Below _ _ _›).2.2.size) _ | refine Below.trans ?_ (Below.mono (by assumption) (by first | exact Nat.le_refl _ | (simp; done) | omega | (simp; omega) | exact (‹_ ∧ _ ∧ Below _ _ _›).2.2.size))))
  have hsw_w6 := hbw_w6.size
  have hzz_w6 : w5.heap.size ≤ (w5.alloc (.cells #[.int .i64 d1, .int .i64 f1, .slice Ax0_1 ss1.length cx0_1, .int .i64 d2, .int .i64 f2, .slice Ax0_2 ss2.length cx0_2, .slice Ax0_3 st.length cx0_3] 33)).heap.size := (by simp; try omega)
  generalize (w5.alloc (.cells #[.int .i64 d1, .int .i64 f1, .slice Ax0_1 ss1.length cx0_1, .int .i64 d2, .int .i64 f2, .slice Ax0_2 ss2.length cx0_2, .slice Ax0_3 st.length cx0_3] 33)) = w6 at *
  clear hk_aD_w5 ho_x0_w5 hbw_w5 hsw_w5
  refine (unhide HIMPL _ _ _ _ _ _ _ (OwnDraft.rd ho_x0_w6 (hnD.more (by omega)))).mono ?_
  rintro e w7 ⟨rfl, hb_w7⟩
  have hk_aD_w7 := blk_next hk_aD_w6 hb_w7
  have hk_x0_w7 := blk_next hk_x0_w6 hb_w7
  have ho_x0_w7 := ho_x0_w6.below hb_w7
  have hbw_w7 : Below w.heap.size w w7 := (by repeat (first | (with_reducible exact Below.refl _ _) | (with_reducible assumption) | (with_reducible exact (‹_ ∧ _ ∧ Below _ _ _›).2.2) | (with_reducible refine below_drewN ?_ _) | (with_reducible refine Below.drew ?_) | ((with_reducible refine Below.alloc ?_ ?hsd _); (case hsd => (first | exact Nat.le_refl _ | (simp; done) | omega | (simp; omega) | exact (‹_ ∧ _ ∧ Below _ _ _›).2.2.size))) | ((with_reducible refine Below.setCell ?_ ?hsd _); (case hsd => (first | exact Nat.le_refl _ | (simp; done) | omega | (simp; omega) | exact (‹_ ∧ _ ∧ Below _ _ _›).2.2.size))) | ((with_reducible refine Below.trans ?_ (Below.mono (by with_reducible assumption) ?hsd)); (case hsd => (first | exact Nat.le_refl _ | (simp; done) | omega | (simp; omega) | exact (‹_ ∧ _ ∧ Below _ _ _›).2.2.size))) | exact Below.refl _ _ | assumption | exact (‹_ ∧ _ ∧ Below _ _ _›).2.2 | refine below_drewN ?_ _ | refine Below.drew ?_ | refine Below.alloc ?_ (by first | exact Nat.le_refl _ | (simp; done) | omega | (simp; omega) | exact (‹_ ∧ _ ∧ Below _ _ _›).2.2.size) _ | refine Below.setCell ?_ (by first | exact Nat.le_refl _ | (simp; done) | omega | (simp; omega) | exact (‹_ ∧ _ ∧ Below _ _ _›).2.2.size) _ | refine Below.trans ?_ (Below.mono (by assumption) (by first | exact Nat.le_refl _ | (simp; done) | omega | (simp; omega) | exact (‹_ ∧ _ ∧ Below _ _ _›).2.2.size))))
  have hsw_w7 := hbw_w7.size
  clear hk_aD_w6 hk_x0_w6 ho_x0_w6 hbw_w6 hsw_w6 hb_w7
  obtain ⟨hx0_aD, hx1_aD, hx2_aD, hx3_aD, hx4_aD, hx5_aD, hx6_aD, hxl_aD⟩ := blk7 hk_aD_w7
  obtain ⟨hx0_x0, hx1_x0, hx2_x0, hx3_x0, hx4_x0, hx5_x0, hx6_x0, hxl_x0⟩ := blk7 hk_x0_w7
  go_wp2_with fail
  have hS_c := hSD.below hbw_w7
  have hX_c := OwnDraft.rd ho_x0_w7 (hnD.more (by omega))
  go_region_held3 (fun W => (∀ b o, b < w7.heap.size → W.cell? ⟨b, o, none⟩ = (w7).cell? ⟨b, o, none⟩) ∧ (∀ b o, b < w7.heap.size → W.frozen? ⟨b, o, none⟩ = (w7).frozen? ⟨b, o, none⟩) ∧ Below (w7.heap.size) (w7) W) (exact keep_of (by repeat (first | (with_reducible exact Below.refl _ _) | (with_reducible assumption) | (with_reducible exact (‹_ ∧ _ ∧ Below _ _ _›).2.2) | (with_reducible refine below_drewN ?_ _) | (with_reducible refine Below.drew ?_) | ((with_reducible refine Below.alloc ?_ ?hsd _); (case hsd => (first | exact Nat.le_refl _ | (simp; done) | omega | (simp; omega) | exact (‹_ ∧ _ ∧ Below _ _ _›).2.2.size))) | ((with_reducible refine Below.setCell ?_ ?hsd _); (case hsd => (first | exact Nat.le_refl _ | (simp; done) | omega | (simp; omega) | exact (‹_ ∧ _ ∧ Below _ _ _›).2.2.size))) | ((with_reducible refine Below.trans ?_ (Below.mono (by with_reducible assumption) ?hsd)); (case hsd => (first | exact Nat.le_refl _ | (simp; done) | omega | (simp; omega) | exact (‹_ ∧ _ ∧ Below _ _ _›).2.2.size))) | exact Below.refl _ _ | assumption | exact (‹_ ∧ _ ∧ Below _ _ _›).2.2 | refine below_drewN ?_ _ | refine Below.drew ?_ | refine Below.alloc ?_ (by first | exact Nat.le_refl _ | (simp; done) | omega | (simp; omega) | exact (‹_ ∧ _ ∧ Below _ _ _›).2.2.size) _ | refine Below.setCell ?_ (by first | exact Nat.le_refl _ | (simp; done) | omega | (simp; omega) | exact (‹_ ∧ _ ∧ Below _ _ _›).2.2.size) _ | refine Below.trans ?_ (Below.mono (by assumption) (by first | exact Nat.le_refl _ | (simp; done) | omega | (simp; omega) | exact (‹_ ∧ _ ∧ Below _ _ _›).2.2.size))))) (first | (go_at_call 13; have hq := (‹_ ∧ _ ∧ Below _ _ _›).2.2; refine (l_toDraft2 d1 f1 ss1 d2 f2 ss2 st w.heap.size A1 A2 A3 c1 c2 c3 _ ?_ ?_).mono ?_; exact hS_c.below (hq.mono hsw_w7); exact Nat.le_trans hsw_w7 hq.size; rintro e wa_w8 ⟨Aa1, ca1, Aa2, ca2, Aa3, ca3, rfl, hoa, hba⟩) | (go_at_call 15; have hq2 := (‹_ ∧ _ ∧ Below _ _ _›).2.2; refine (l_eqDraft_same (PDraft.mk d1 f1 ss1 d2 f2 ss2 st) wa_w8.heap.size _ _ _ _ _ _ _ _ _ _ _ _ _ ?_ ?_ ?_).mono ?_; exact (hX_c.below hq2).more hq2.size; exact OwnDraft.rd hoa (hnD.more (by omega)); exact Nat.le_refl _; rintro e w8 ⟨rfl, hbz⟩))
  have hb67 : Below w7.heap.size w7 wa_w8 := (Below.refl _ _).drew.trans hba
  have hz7 : w7.heap.size ≤ wa_w8.heap.size := hba.size
  have hb68 : Below w7.heap.size w7 w8 := hb67.trans (hbz.mono hz7)
  clear hS_c hX_c hoa hba hbz hb67 hz7
  clear hx0_aD hx1_aD hx2_aD hx3_aD hx4_aD hx5_aD hx6_aD hxl_aD hx0_x0 hx1_x0 hx2_x0 hx3_x0 hx4_x0 hx5_x0 hx6_x0 hxl_x0
  have hk_aD_w8 := blk_next hk_aD_w7 hb68
  have hk_x0_w8 := blk_next hk_x0_w7 hb68
  have ho_x0_w8 := ho_x0_w7.below hb68
  have hbw_w8 : Below w.heap.size w w8 := (by repeat (first | (with_reducible exact Below.refl _ _) | (with_reducible assumption) | (with_reducible exact (‹_ ∧ _ ∧ Below _ _ _›).2.2) | (with_reducible refine below_drewN ?_ _) | (with_reducible refine Below.drew ?_) | ((with_reducible refine Below.alloc ?_ ?hsd _); (case hsd => (first | exact Nat.le_refl _ | (simp; done) | omega | (simp; omega) | exact (‹_ ∧ _ ∧ Below _ _ _›).2.2.size))) | ((with_reducible refine Below.setCell ?_ ?hsd _); (case hsd => (first | exact Nat.le_refl _ | (simp; done) | omega | (simp; omega) | exact (‹_ ∧ _ ∧ Below _ _ _›).2.2.size))) | ((with_reducible refine Below.trans ?_ (Below.mono (by with_reducible assumption) ?hsd)); (case hsd => (first | exact Nat.le_refl _ | (simp; done) | omega | (simp; omega) | exact (‹_ ∧ _ ∧ Below _ _ _›).2.2.size))) | exact Below.refl _ _ | assumption | exact (‹_ ∧ _ ∧ Below _ _ _›).2.2 | refine below_drewN ?_ _ | refine Below.drew ?_ | refine Below.alloc ?_ (by first | exact Nat.le_refl _ | (simp; done) | omega | (simp; omega) | exact (‹_ ∧ _ ∧ Below _ _ _›).2.2.size) _ | refine Below.setCell ?_ (by first | exact Nat.le_refl _ | (simp; done) | omega | (simp; omega) | exact (‹_ ∧ _ ∧ Below _ _ _›).2.2.size) _ | refine Below.trans ?_ (Below.mono (by assumption) (by first | exact Nat.le_refl _ | (simp; done) | omega | (simp; omega) | exact (‹_ ∧ _ ∧ Below _ _ _›).2.2.size))))
  have hsw_w8 := hbw_w8.size
  clear hk_aD_w7 hk_x0_w7 ho_x0_w7 hbw_w7 hsw_w7 hb68
  obtain ⟨hx0_aD, hx1_aD, hx2_aD, hx3_aD, hx4_aD, hx5_aD, hx6_aD, hxl_aD⟩ := blk7 hk_aD_w8
  obtain ⟨hx0_x0, hx1_x0, hx2_x0, hx3_x0, hx4_x0, hx5_x0, hx6_x0, hxl_x0⟩ := blk7 hk_x0_w8
  go_wp2
  go_ret
  exact ⟨rfl, hbw_w8⟩

end Go.Proofs.Ytejgbebcppgnfaa.fnExactRoomGained
