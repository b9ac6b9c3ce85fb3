/- The walk of FnExactAddBoxes, for arguments that are not too large. -/
import Derived.Test.YtdkelaiadgechaaAddBoxes
import Derived.Test.YtdkelaiadgechaaLawBox
import Derived.Test.YtdkelaiadgechaaLift
import Derived.Test.YtdkelaiadgechaaLawKit3
import Derived.Deep.Slices
import Derived.SliceStrings
import Derived.Lib.SmallJoins
import Derived.Deep.DeepCutAuto
import Derived.Deep.RegionHeld3
namespace Go.Proofs.Ytdkelaiadgechaa.fnExactAddBoxes
open Go.ChangeShapes Go.WideShapes Go.ChangeAt Go.RowKit Go.Joins Go.WideMaps Go.WideElems
open Go.ChangeMaps (open_string shut_string)
set_option linter.unusedVariables false

set_option maxRecDepth 100000 in
set_option maxHeartbeats 8000000 in
theorem walkAddBoxes (d f : Int) (A : Option Addr) (n c : Nat) (ss : List ByteArray) (Ab : Option Addr) (nb cb : Nat) (lb : List PBox) (w : World) (hS : Strs w w.heap.size A n ss) (hn : n ≤ 1048576) (hSb : Boxes w w.heap.size Ab nb lb) (hnb : nb ≤ 1048576) (hz1 : 0 ≤ szStrs ss 1048576) (hz2 : 0 ≤ szN nb (szStrs ss 1048576)) :
    Calls Try.prog 9 #[.agg #[.int .i64 d, .int .i64 f, .slice A n c], .slice Ab nb cb] w fun e w' => e = .returned (.bool true) ∧ Below w.heap.size w w' := by
  have hl := hS.len
  have hlb := hSb.len
  obtain ⟨hrl, hrs⟩ : ((addRes d f ss lb).1).length ≤ 1048576 ∧ ∀ x ∈ ((addRes d f ss lb).1), x.size ≤ 16777216 := by
    have hl2 := hl
    unfold addRes
    split
    · exact addAll_ok d f lb 1048576 ss 0 (by omega) hS.sb
    · exact ⟨by show ss.length ≤ _; omega, hS.sb⟩
  have hspec := fun (W : World) (A0 : Option Addr) (c0 : Nat) (h : Strs W W.heap.size A0 ss.length ss) (hc0 : ss.length ≤ c0 ∧ c0 ≤ 9223372036854775807) (A0b : Option Addr) (c0b : Nat) (hb : Boxes W W.heap.size A0b lb.length lb) => s_AddBoxes d f W.heap.size A0 ss.length c0 ss A0b lb.length c0b lb W h hb (Nat.le_refl _)
  have himpl := fun (W : World) (A0 : Option Addr) (c0 : Nat) (h : Strs W W.heap.size A0 ss.length ss) (hc0 : ss.length ≤ c0 ∧ c0 ≤ 9223372036854775807) (A0b : Option Addr) (c0b : Nat) (hb : Boxes W W.heap.size A0b lb.length lb) => i_AddBoxes d f W.heap.size A0 ss.length c0 ss A0b lb.length c0b lb W h hb (Nat.le_refl _)
  have HL := Lib.hid hl
  clear hl
  have HLb := Lib.hid hlb
  clear hlb
  generalize hs2 : ((addRes d f ss lb).1) = ss2r at hspec himpl hrl hrs
  generalize hgen0 : ((addRes d f ss lb).2) = rv at hspec himpl
  clear hs2 hgen0
  have HSPEC := hide hspec
  have HIMPL := hide himpl
  clear hspec himpl
  have HRS := hide hrs
  clear hrs
  go_enter Try.func9, Try.ntmps9
  go_wp2_with fail
  have hk_aC_w1 := (blk_new_at w (.cells #[.int .i64 d, .int .i64 f, .slice A n c] 24) (k := w.heap.size) (by simp))
  have hbw_w1 : Below w.heap.size w (w.alloc (.cells #[.int .i64 d, .int .i64 f, .slice A n c] 24)) := (by repeat (first | (with_reducible exact Below.refl _ _) | (with_reducible assumption) | (with_reducible exact (‹_ ∧ _ ∧ Below _ _ _›).2.2) | (with_reducible refine below_drewN ?_ _) | (with_reducible refine Below.drew ?_) | ((with_reducible refine Below.alloc ?_ ?hsd _); (case hsd => (first | exact Nat.le_refl _ | (simp; done) | omega | (simp; omega) | exact (‹_ ∧ _ ∧ Below _ _ _›).2.2.size))) | ((with_reducible refine Below.setCell ?_ ?hsd _); (case hsd => (first | exact Nat.le_refl _ | (simp; done) | omega | (simp; omega) | exact (‹_ ∧ _ ∧ Below _ _ _›).2.2.size))) | ((with_reducible refine Below.trans ?_ (Below.mono (by with_reducible assumption) ?hsd)); (case hsd => (first | exact Nat.le_refl _ | (simp; done) | omega | (simp; omega) | exact (‹_ ∧ _ ∧ Below _ _ _›).2.2.size))) | exact Below.refl _ _ | assumption | exact (‹_ ∧ _ ∧ Below _ _ _›).2.2 | refine below_drewN ?_ _ | refine Below.drew ?_ | refine Below.alloc ?_ (by first | exact Nat.le_refl _ | (simp; done) | omega | (simp; omega) | exact (‹_ ∧ _ ∧ Below _ _ _›).2.2.size) _ | refine Below.setCell ?_ (by first | exact Nat.le_refl _ | (simp; done) | omega | (simp; omega) | exact (‹_ ∧ _ ∧ Below _ _ _›).2.2.size) _ | refine Below.trans ?_ (Below.mono (by assumption) (by first | exact Nat.le_refl _ | (simp; done) | omega | (simp; omega) | exact (‹_ ∧ _ ∧ Below _ _ _›).2.2.size))))
  have hsw_w1 := hbw_w1.size
  have hzz_w1 : w.heap.size ≤ (w.alloc (.cells #[.int .i64 d, .int .i64 f, .slice A n c] 24)).heap.size := (by simp; try omega)
  generalize (w.alloc (.cells #[.int .i64 d, .int .i64 f, .slice A n c] 24)) = w1 at *
  refine (l_szCard d f w.heap.size A n c ss (1048576) _ hsw_w1 (hS.rd.below hbw_w1) (by omega) (fun s hs => by have := hS.sb s hs; omega) (by omega) (by omega)).mono ?_
  rintro e w2 ⟨rfl, hb_w2⟩
  have hk_aC_w2 := blk_next hk_aC_w1 hb_w2
  have hbw_w2 : Below w.heap.size w w2 := (by repeat (first | (with_reducible exact Below.refl _ _) | (with_reducible assumption) | (with_reducible exact (‹_ ∧ _ ∧ Below _ _ _›).2.2) | (with_reducible refine below_drewN ?_ _) | (with_reducible refine Below.drew ?_) | ((with_reducible refine Below.alloc ?_ ?hsd _); (case hsd => (first | exact Nat.le_refl _ | (simp; done) | omega | (simp; omega) | exact (‹_ ∧ _ ∧ Below _ _ _›).2.2.size))) | ((with_reducible refine Below.setCell ?_ ?hsd _); (case hsd => (first | exact Nat.le_refl _ | (simp; done) | omega | (simp; omega) | exact (‹_ ∧ _ ∧ Below _ _ _›).2.2.size))) | ((with_reducible refine Below.trans ?_ (Below.mono (by with_reducible assumption) ?hsd)); (case hsd => (first | exact Nat.le_refl _ | (simp; done) | omega | (simp; omega) | exact (‹_ ∧ _ ∧ Below _ _ _›).2.2.size))) | exact Below.refl _ _ | assumption | exact (‹_ ∧ _ ∧ Below _ _ _›).2.2 | refine below_drewN ?_ _ | refine Below.drew ?_ | refine Below.alloc ?_ (by first | exact Nat.le_refl _ | (simp; done) | omega | (simp; omega) | exact (‹_ ∧ _ ∧ Below _ _ _›).2.2.size) _ | refine Below.setCell ?_ (by first | exact Nat.le_refl _ | (simp; done) | omega | (simp; omega) | exact (‹_ ∧ _ ∧ Below _ _ _›).2.2.size) _ | refine Below.trans ?_ (Below.mono (by assumption) (by first | exact Nat.le_refl _ | (simp; done) | omega | (simp; omega) | exact (‹_ ∧ _ ∧ Below _ _ _›).2.2.size))))
  have hsw_w2 := hbw_w2.size
  clear hk_aC_w1 hbw_w1 hsw_w1 hb_w2
  have hub_w2 : szStrs ss 1048576 ≤ 1048576 := sz_ub _ _ (by omega)
  obtain ⟨hx0_aC, hx1_aC, hx2_aC, hxl_aC⟩ := blk3 hk_aC_w2
  go_wp2_with fail
  refine (l_szBoxS _ _ _ (szStrs ss 1048576) _ (by omega) (by omega) (by omega)).mono ?_
  rintro e w' ⟨rfl, rfl⟩
  have hub_w2_b : szN nb (szStrs ss 1048576) ≤ 1048576 := sz_ub_n _ _ (by omega)
  clear hx0_aC hx1_aC hx2_aC hxl_aC
  obtain ⟨hx0_aC, hx1_aC, hx2_aC, hxl_aC⟩ := blk3 hk_aC_w2
  go_wp2_with fail
  refine (l_toCard d f w.heap.size A n c ss _ (hS.below hbw_w2) hsw_w2).mono ?_
  rintro e w3 ⟨At1_0, ct1_0, rfl, hon, hb_w3⟩
  clear hx0_aC hx1_aC hx2_aC hxl_aC
  have hk_aC_w3 := blk_next hk_aC_w2 hb_w3
  have hbw_w3 : Below w.heap.size w w3 := (by repeat (first | (with_reducible exact Below.refl _ _) | (with_reducible assumption) | (with_reducible exact (‹_ ∧ _ ∧ Below _ _ _›).2.2) | (with_reducible refine below_drewN ?_ _) | (with_reducible refine Below.drew ?_) | ((with_reducible refine Below.alloc ?_ ?hsd _); (case hsd => (first | exact Nat.le_refl _ | (simp; done) | omega | (simp; omega) | exact (‹_ ∧ _ ∧ Below _ _ _›).2.2.size))) | ((with_reducible refine Below.setCell ?_ ?hsd _); (case hsd => (first | exact Nat.le_refl _ | (simp; done) | omega | (simp; omega) | exact (‹_ ∧ _ ∧ Below _ _ _›).2.2.size))) | ((with_reducible refine Below.trans ?_ (Below.mono (by with_reducible assumption) ?hsd)); (case hsd => (first | exact Nat.le_refl _ | (simp; done) | omega | (simp; omega) | exact (‹_ ∧ _ ∧ Below _ _ _›).2.2.size))) | exact Below.refl _ _ | assumption | exact (‹_ ∧ _ ∧ Below _ _ _›).2.2 | refine below_drewN ?_ _ | refine Below.drew ?_ | refine Below.alloc ?_ (by first | exact Nat.le_refl _ | (simp; done) | omega | (simp; omega) | exact (‹_ ∧ _ ∧ Below _ _ _›).2.2.size) _ | refine Below.setCell ?_ (by first | exact Nat.le_refl _ | (simp; done) | omega | (simp; omega) | exact (‹_ ∧ _ ∧ Below _ _ _›).2.2.size) _ | refine Below.trans ?_ (Below.mono (by assumption) (by first | exact Nat.le_refl _ | (simp; done) | omega | (simp; omega) | exact (‹_ ∧ _ ∧ Below _ _ _›).2.2.size))))
  have hsw_w3 := hbw_w3.size
  clear hk_aC_w2 hbw_w2 hsw_w2 hb_w3
  have ho_t1_0_w3 := hon
  clear hon
  go_wp2_with fail
  refine (l_toBoxS w.heap.size _ _ _ lb _ (hSb.below hbw_w3) hsw_w3).mono ?_
  rintro e w4 ⟨At1_1, ct1_1, rfl, hon, hb_w4⟩
  have hk_aC_w4 := blk_next hk_aC_w3 hb_w4
  have ho_t1_0_w4 := own_below ho_t1_0_w3 hb_w4
  have hbw_w4 : Below w.heap.size w w4 := (by repeat (first | (with_reducible exact Below.refl _ _) | (with_reducible assumption) | (with_reducible exact (‹_ ∧ _ ∧ Below _ _ _›).2.2) | (with_reducible refine below_drewN ?_ _) | (with_reducible refine Below.drew ?_) | ((with_reducible refine Below.alloc ?_ ?hsd _); (case hsd => (first | exact Nat.le_refl _ | (simp; done) | omega | (simp; omega) | exact (‹_ ∧ _ ∧ Below _ _ _›).2.2.size))) | ((with_reducible refine Below.setCell ?_ ?hsd _); (case hsd => (first | exact Nat.le_refl _ | (simp; done) | omega | (simp; omega) | exact (‹_ ∧ _ ∧ Below _ _ _›).2.2.size))) | ((with_reducible refine Below.trans ?_ (Below.mono (by with_reducible assumption) ?hsd)); (case hsd => (first | exact Nat.le_refl _ | (simp; done) | omega | (simp; omega) | exact (‹_ ∧ _ ∧ Below _ _ _›).2.2.size))) | exact Below.refl _ _ | assumption | exact (‹_ ∧ _ ∧ Below _ _ _›).2.2 | refine below_drewN ?_ _ | refine Below.drew ?_ | refine Below.alloc ?_ (by first | exact Nat.le_refl _ | (simp; done) | omega | (simp; omega) | exact (‹_ ∧ _ ∧ Below _ _ _›).2.2.size) _ | refine Below.setCell ?_ (by first | exact Nat.le_refl _ | (simp; done) | omega | (simp; omega) | exact (‹_ ∧ _ ∧ Below _ _ _›).2.2.size) _ | refine Below.trans ?_ (Below.mono (by assumption) (by first | exact Nat.le_refl _ | (simp; done) | omega | (simp; omega) | exact (‹_ ∧ _ ∧ Below _ _ _›).2.2.size))))
  have hsw_w4 := hbw_w4.size
  clear hk_aC_w3 ho_t1_0_w3 hbw_w3 hsw_w3 hb_w4
  have ho_t1_1_w4 := hon
  clear hon
  go_wp2_with fail
  refine (unhide HSPEC _ _ _ (strs_of_own ho_t1_0_w4 (by have := HL.out; omega) hS.sb) (own_cap ho_t1_0_w4) _ _ (boxes_of_own ho_t1_1_w4 (by have := HLb.out; omega))).mono ?_
  rintro e w5 ⟨A1, c1, rfl, hon, hb_w5⟩
  clear ho_t1_0_w4
  clear ho_t1_1_w4
  have hbase_w0 : w.heap.size ≤ w4.heap.size := hsw_w4
  have hk_aC_w5 := blk_next hk_aC_w4 hb_w5
  have hbw_w5 : Below w.heap.size w w5 := (by repeat (first | (with_reducible exact Below.refl _ _) | (with_reducible assumption) | (with_reducible exact (‹_ ∧ _ ∧ Below _ _ _›).2.2) | (with_reducible refine below_drewN ?_ _) | (with_reducible refine Below.drew ?_) | ((with_reducible refine Below.alloc ?_ ?hsd _); (case hsd => (first | exact Nat.le_refl _ | (simp; done) | omega | (simp; omega) | exact (‹_ ∧ _ ∧ Below _ _ _›).2.2.size))) | ((with_reducible refine Below.setCell ?_ ?hsd _); (case hsd => (first | exact Nat.le_refl _ | (simp; done) | omega | (simp; omega) | exact (‹_ ∧ _ ∧ Below _ _ _›).2.2.size))) | ((with_reducible refine Below.trans ?_ (Below.mono (by with_reducible assumption) ?hsd)); (case hsd => (first | exact Nat.le_refl _ | (simp; done) | omega | (simp; omega) | exact (‹_ ∧ _ ∧ Below _ _ _›).2.2.size))) | exact Below.refl _ _ | assumption | exact (‹_ ∧ _ ∧ Below _ _ _›).2.2 | refine below_drewN ?_ _ | refine Below.drew ?_ | refine Below.alloc ?_ (by first | exact Nat.le_refl _ | (simp; done) | omega | (simp; omega) | exact (‹_ ∧ _ ∧ Below _ _ _›).2.2.size) _ | refine Below.setCell ?_ (by first | exact Nat.le_refl _ | (simp; done) | omega | (simp; omega) | exact (‹_ ∧ _ ∧ Below _ _ _›).2.2.size) _ | refine Below.trans ?_ (Below.mono (by assumption) (by first | exact Nat.le_refl _ | (simp; done) | omega | (simp; omega) | exact (‹_ ∧ _ ∧ Below _ _ _›).2.2.size))))
  have hsw_w5 := hbw_w5.size
  clear hk_aC_w4 hbw_w4 hsw_w4 hb_w5
  have ho_w0_w5 := hon
  clear hon
  obtain ⟨hx0_aC, hx1_aC, hx2_aC, hxl_aC⟩ := blk3 hk_aC_w5
  go_wp2_with fail
  clear hx0_aC hx1_aC hx2_aC hxl_aC
  have hk_aC_w6 := (blk_alloc hk_aC_w5 (.cells #[.int .i64 d, .int .i64 f, .slice A1 ss2r.length c1] 28))
  have hk_w0_w6 := (blk_new_at w5 (.cells #[.int .i64 d, .int .i64 f, .slice A1 ss2r.length c1] 28) (k := w5.heap.size) (by simp))
  have ho_w0_w6 := (ho_w0_w5.alloc (.cells #[.int .i64 d, .int .i64 f, .slice A1 ss2r.length c1] 28))
  have hbw_w6 : Below w.heap.size w (w5.alloc (.cells #[.int .i64 d, .int .i64 f, .slice A1 ss2r.length c1] 28)) := (by repeat (first | (with_reducible exact Below.refl _ _) | (with_reducible assumption) | (with_reducible exact (‹_ ∧ _ ∧ Below _ _ _›).2.2) | (with_reducible refine below_drewN ?_ _) | (with_reducible refine Below.drew ?_) | ((with_reducible refine Below.alloc ?_ ?hsd _); (case hsd => (first | exact Nat.le_refl _ | (simp; done) | omega | (simp; omega) | exact (‹_ ∧ _ ∧ Below _ _ _›).2.2.size))) | ((with_reducible refine Below.setCell ?_ ?hsd _); (case hsd => (first | exact Nat.le_refl _ | (simp; done) | omega | (simp; omega) | exact (‹_ ∧ _ ∧ Below _ _ _›).2.2.size))) | ((with_reducible refine Below.trans ?_ (Below.mono (by with_reducible assumption) ?hsd)); (case hsd => (first | exact Nat.le_refl _ | (simp; done) | omega | (simp; omega) | exact (‹_ ∧ _ ∧ Below _ _ _›).2.2.size))) | exact Below.refl _ _ | assumption | exact (‹_ ∧ _ ∧ Below _ _ _›).2.2 | refine below_drewN ?_ _ | refine Below.drew ?_ | refine Below.alloc ?_ (by first | exact Nat.le_refl _ | (simp; done) | omega | (simp; omega) | exact (‹_ ∧ _ ∧ Below _ _ _›).2.2.size) _ | refine Below.setCell ?_ (by first | exact Nat.le_refl _ | (simp; done) | omega | (simp; omega) | exact (‹_ ∧ _ ∧ Below _ _ _›).2.2.size) _ | refine Below.trans ?_ (Below.mono (by assumption) (by first | exact Nat.le_refl _ | (simp; done) | omega | (simp; omega) | exact (‹_ ∧ _ ∧ Below _ _ _›).2.2.size))))
  have hsw_w6 := hbw_w6.size
  have hzz_w6 : w5.heap.size ≤ (w5.alloc (.cells #[.int .i64 d, .int .i64 f, .slice A1 ss2r.length c1] 28)).heap.size := (by simp; try omega)
  generalize (w5.alloc (.cells #[.int .i64 d, .int .i64 f, .slice A1 ss2r.length c1] 28)) = w6 at *
  clear hk_aC_w5 ho_w0_w5 hbw_w5 hsw_w5
  refine (l_toCard d f w.heap.size A n c ss _ (hS.below hbw_w6) hsw_w6).mono ?_
  rintro e w7 ⟨Ax0, cx0, rfl, hon, hb_w7⟩
  have hbase_x0 : w.heap.size ≤ w6.heap.size := hsw_w6
  have hlt_w0_x0 := hide (ltbk ho_w0_w6)
  have hk_aC_w7 := blk_next hk_aC_w6 hb_w7
  have hk_w0_w7 := blk_next hk_w0_w6 hb_w7
  have ho_w0_w7 := own_below ho_w0_w6 hb_w7
  have hbw_w7 : Below w.heap.size w w7 := (by repeat (first | (with_reducible exact Below.refl _ _) | (with_reducible assumption) | (with_reducible exact (‹_ ∧ _ ∧ Below _ _ _›).2.2) | (with_reducible refine below_drewN ?_ _) | (with_reducible refine Below.drew ?_) | ((with_reducible refine Below.alloc ?_ ?hsd _); (case hsd => (first | exact Nat.le_refl _ | (simp; done) | omega | (simp; omega) | exact (‹_ ∧ _ ∧ Below _ _ _›).2.2.size))) | ((with_reducible refine Below.setCell ?_ ?hsd _); (case hsd => (first | exact Nat.le_refl _ | (simp; done) | omega | (simp; omega) | exact (‹_ ∧ _ ∧ Below _ _ _›).2.2.size))) | ((with_reducible refine Below.trans ?_ (Below.mono (by with_reducible assumption) ?hsd)); (case hsd => (first | exact Nat.le_refl _ | (simp; done) | omega | (simp; omega) | exact (‹_ ∧ _ ∧ Below _ _ _›).2.2.size))) | exact Below.refl _ _ | assumption | exact (‹_ ∧ _ ∧ Below _ _ _›).2.2 | refine below_drewN ?_ _ | refine Below.drew ?_ | refine Below.alloc ?_ (by first | exact Nat.le_refl _ | (simp; done) | omega | (simp; omega) | exact (‹_ ∧ _ ∧ Below _ _ _›).2.2.size) _ | refine Below.setCell ?_ (by first | exact Nat.le_refl _ | (simp; done) | omega | (simp; omega) | exact (‹_ ∧ _ ∧ Below _ _ _›).2.2.size) _ | refine Below.trans ?_ (Below.mono (by assumption) (by first | exact Nat.le_refl _ | (simp; done) | omega | (simp; omega) | exact (‹_ ∧ _ ∧ Below _ _ _›).2.2.size))))
  have hsw_w7 := hbw_w7.size
  clear hk_aC_w6 hk_w0_w6 ho_w0_w6 hbw_w6 hsw_w6 hb_w7
  have ho_x0_w7 := hon
  clear hon
  obtain ⟨hx0_aC, hx1_aC, hx2_aC, hxl_aC⟩ := blk3 hk_aC_w7
  obtain ⟨hx0_w0, hx1_w0, hx2_w0, hxl_w0⟩ := blk3 hk_w0_w7
  go_wp2_with fail
  clear hx0_aC hx1_aC hx2_aC hxl_aC hx0_w0 hx1_w0 hx2_w0 hxl_w0
  have hk_aC_w8 := (blk_alloc hk_aC_w7 (.cells #[.int .i64 d, .int .i64 f, .slice Ax0 ss.length cx0] 28))
  have hk_w0_w8 := (blk_alloc hk_w0_w7 (.cells #[.int .i64 d, .int .i64 f, .slice Ax0 ss.length cx0] 28))
  have hk_x0_w8 := (blk_new_at w7 (.cells #[.int .i64 d, .int .i64 f, .slice Ax0 ss.length cx0] 28) (k := w7.heap.size) (by simp))
  have ho_w0_w8 := (ho_w0_w7.alloc (.cells #[.int .i64 d, .int .i64 f, .slice Ax0 ss.length cx0] 28))
  have ho_x0_w8 := (ho_x0_w7.alloc (.cells #[.int .i64 d, .int .i64 f, .slice Ax0 ss.length cx0] 28))
  have hbw_w8 : Below w.heap.size w (w7.alloc (.cells #[.int .i64 d, .int .i64 f, .slice Ax0 ss.length cx0] 28)) := (by repeat (first | (with_reducible exact Below.refl _ _) | (with_reducible assumption) | (with_reducible exact (‹_ ∧ _ ∧ Below _ _ _›).2.2) | (with_reducible refine below_drewN ?_ _) | (with_reducible refine Below.drew ?_) | ((with_reducible refine Below.alloc ?_ ?hsd _); (case hsd => (first | exact Nat.le_refl _ | (simp; done) | omega | (simp; omega) | exact (‹_ ∧ _ ∧ Below _ _ _›).2.2.size))) | ((with_reducible refine Below.setCell ?_ ?hsd _); (case hsd => (first | exact Nat.le_refl _ | (simp; done) | omega | (simp; omega) | exact (‹_ ∧ _ ∧ Below _ _ _›).2.2.size))) | ((with_reducible refine Below.trans ?_ (Below.mono (by with_reducible assumption) ?hsd)); (case hsd => (first | exact Nat.le_refl _ | (simp; done) | omega | (simp; omega) | exact (‹_ ∧ _ ∧ Below _ _ _›).2.2.size))) | exact Below.refl _ _ | assumption | exact (‹_ ∧ _ ∧ Below _ _ _›).2.2 | refine below_drewN ?_ _ | refine Below.drew ?_ | refine Below.alloc ?_ (by first | exact Nat.le_refl _ | (simp; done) | omega | (simp; omega) | exact (‹_ ∧ _ ∧ Below _ _ _›).2.2.size) _ | refine Below.setCell ?_ (by first | exact Nat.le_refl _ | (simp; done) | omega | (simp; omega) | exact (‹_ ∧ _ ∧ Below _ _ _›).2.2.size) _ | refine Below.trans ?_ (Below.mono (by assumption) (by first | exact Nat.le_refl _ | (simp; done) | omega | (simp; omega) | exact (‹_ ∧ _ ∧ Below _ _ _›).2.2.size))))
  have hsw_w8 := hbw_w8.size
  have hzz_w8 : w7.heap.size ≤ (w7.alloc (.cells #[.int .i64 d, .int .i64 f, .slice Ax0 ss.length cx0] 28)).heap.size := (by simp; try omega)
  generalize (w7.alloc (.cells #[.int .i64 d, .int .i64 f, .slice Ax0 ss.length cx0] 28)) = w8 at *
  clear hk_aC_w7 hk_w0_w7 ho_w0_w7 ho_x0_w7 hbw_w7 hsw_w7
  refine (l_toBoxS w.heap.size _ _ _ lb _ (hSb.below hbw_w8) hsw_w8).mono ?_
  rintro e w9 ⟨Ax1, cx1, rfl, hon, hb_w9⟩
  have hbase_x1 : w.heap.size ≤ w8.heap.size := hsw_w8
  have hlt_w0_x1 := hide (ltbk ho_w0_w8)
  have hlt_x0_x1 := hide (ltbk ho_x0_w8)
  have hk_aC_w9 := blk_next hk_aC_w8 hb_w9
  have hk_w0_w9 := blk_next hk_w0_w8 hb_w9
  have hk_x0_w9 := blk_next hk_x0_w8 hb_w9
  have ho_w0_w9 := own_below ho_w0_w8 hb_w9
  have ho_x0_w9 := own_below ho_x0_w8 hb_w9
  have hbw_w9 : Below w.heap.size w w9 := (by repeat (first | (with_reducible exact Below.refl _ _) | (with_reducible assumption) | (with_reducible exact (‹_ ∧ _ ∧ Below _ _ _›).2.2) | (with_reducible refine below_drewN ?_ _) | (with_reducible refine Below.drew ?_) | ((with_reducible refine Below.alloc ?_ ?hsd _); (case hsd => (first | exact Nat.le_refl _ | (simp; done) | omega | (simp; omega) | exact (‹_ ∧ _ ∧ Below _ _ _›).2.2.size))) | ((with_reducible refine Below.setCell ?_ ?hsd _); (case hsd => (first | exact Nat.le_refl _ | (simp; done) | omega | (simp; omega) | exact (‹_ ∧ _ ∧ Below _ _ _›).2.2.size))) | ((with_reducible refine Below.trans ?_ (Below.mono (by with_reducible assumption) ?hsd)); (case hsd => (first | exact Nat.le_refl _ | (simp; done) | omega | (simp; omega) | exact (‹_ ∧ _ ∧ Below _ _ _›).2.2.size))) | exact Below.refl _ _ | assumption | exact (‹_ ∧ _ ∧ Below _ _ _›).2.2 | refine below_drewN ?_ _ | refine Below.drew ?_ | refine Below.alloc ?_ (by first | exact Nat.le_refl _ | (simp; done) | omega | (simp; omega) | exact (‹_ ∧ _ ∧ Below _ _ _›).2.2.size) _ | refine Below.setCell ?_ (by first | exact Nat.le_refl _ | (simp; done) | omega | (simp; omega) | exact (‹_ ∧ _ ∧ Below _ _ _›).2.2.size) _ | refine Below.trans ?_ (Below.mono (by assumption) (by first | exact Nat.le_refl _ | (simp; done) | omega | (simp; omega) | exact (‹_ ∧ _ ∧ Below _ _ _›).2.2.size))))
  have hsw_w9 := hbw_w9.size
  clear hk_aC_w8 hk_w0_w8 hk_x0_w8 ho_w0_w8 ho_x0_w8 hbw_w8 hsw_w8 hb_w9
  have ho_x1_w9 := hon
  clear hon
  obtain ⟨hx0_aC, hx1_aC, hx2_aC, hxl_aC⟩ := blk3 hk_aC_w9
  obtain ⟨hx0_w0, hx1_w0, hx2_w0, hxl_w0⟩ := blk3 hk_w0_w9
  obtain ⟨hx0_x0, hx1_x0, hx2_x0, hxl_x0⟩ := blk3 hk_x0_w9
  go_wp2_with fail
  refine (unhide HIMPL _ _ _ (strs_of_own ho_x0_w9 (by have := HL.out; omega) hS.sb) (own_cap ho_x0_w9) _ _ (boxes_of_own ho_x1_w9 (by have := HLb.out; omega))).mono ?_
  rintro e w10 ⟨A2, c2, rfl, hon, hb_w10⟩
  have hbase_g0 : w.heap.size ≤ w9.heap.size := hsw_w9
  have hlt_w0_g0 := hide (ltbk ho_w0_w9)
  have hlt_x0_g0 := hide (ltbk ho_x0_w9)
  have hlt_x1_g0 := hide (ltbk ho_x1_w9)
  clear hx0_aC hx1_aC hx2_aC hxl_aC hx0_w0 hx1_w0 hx2_w0 hxl_w0 hx0_x0 hx1_x0 hx2_x0 hxl_x0
  have hk_aC_w10 := blk_next hk_aC_w9 hb_w10
  have hk_w0_w10 := blk_next hk_w0_w9 hb_w10
  have hk_x0_w10 := blk_next hk_x0_w9 hb_w10
  have ho_w0_w10 := own_below ho_w0_w9 hb_w10
  have ho_x0_w10 := own_below ho_x0_w9 hb_w10
  have ho_x1_w10 := own_below ho_x1_w9 hb_w10
  have hbw_w10 : Below w.heap.size w w10 := (by repeat (first | (with_reducible exact Below.refl _ _) | (with_reducible assumption) | (with_reducible exact (‹_ ∧ _ ∧ Below _ _ _›).2.2) | (with_reducible refine below_drewN ?_ _) | (with_reducible refine Below.drew ?_) | ((with_reducible refine Below.alloc ?_ ?hsd _); (case hsd => (first | exact Nat.le_refl _ | (simp; done) | omega | (simp; omega) | exact (‹_ ∧ _ ∧ Below _ _ _›).2.2.size))) | ((with_reducible refine Below.setCell ?_ ?hsd _); (case hsd => (first | exact Nat.le_refl _ | (simp; done) | omega | (simp; omega) | exact (‹_ ∧ _ ∧ Below _ _ _›).2.2.size))) | ((with_reducible refine Below.trans ?_ (Below.mono (by with_reducible assumption) ?hsd)); (case hsd => (first | exact Nat.le_refl _ | (simp; done) | omega | (simp; omega) | exact (‹_ ∧ _ ∧ Below _ _ _›).2.2.size))) | exact Below.refl _ _ | assumption | exact (‹_ ∧ _ ∧ Below _ _ _›).2.2 | refine below_drewN ?_ _ | refine Below.drew ?_ | refine Below.alloc ?_ (by first | exact Nat.le_refl _ | (simp; done) | omega | (simp; omega) | exact (‹_ ∧ _ ∧ Below _ _ _›).2.2.size) _ | refine Below.setCell ?_ (by first | exact Nat.le_refl _ | (simp; done) | omega | (simp; omega) | exact (‹_ ∧ _ ∧ Below _ _ _›).2.2.size) _ | refine Below.trans ?_ (Below.mono (by assumption) (by first | exact Nat.le_refl _ | (simp; done) | omega | (simp; omega) | exact (‹_ ∧ _ ∧ Below _ _ _›).2.2.size))))
  have hsw_w10 := hbw_w10.size
  clear hk_aC_w9 hk_w0_w9 hk_x0_w9 ho_w0_w9 ho_x0_w9 ho_x1_w9 hbw_w9 hsw_w9 hb_w10
  have ho_g0_w10 := hon
  clear hon
  obtain ⟨hx0_aC, hx1_aC, hx2_aC, hxl_aC⟩ := blk3 hk_aC_w10
  obtain ⟨hx0_w0, hx1_w0, hx2_w0, hxl_w0⟩ := blk3 hk_w0_w10
  obtain ⟨hx0_x0, hx1_x0, hx2_x0, hxl_x0⟩ := blk3 hk_x0_w10
  go_wp2_with fail
  clear hx0_aC hx1_aC hx2_aC hxl_aC hx0_w0 hx1_w0 hx2_w0 hxl_w0 hx0_x0 hx1_x0 hx2_x0 hxl_x0
  have hk_aC_w11 := (blk_alloc hk_aC_w10 (.cells #[.int .i64 d, .int .i64 f, .slice A2 ss2r.length c2] 28))
  have hk_w0_w11 := (blk_alloc hk_w0_w10 (.cells #[.int .i64 d, .int .i64 f, .slice A2 ss2r.length c2] 28))
  have hk_x0_w11 := (blk_alloc hk_x0_w10 (.cells #[.int .i64 d, .int .i64 f, .slice A2 ss2r.length c2] 28))
  have hk_g0_w11 := (blk_new_at w10 (.cells #[.int .i64 d, .int .i64 f, .slice A2 ss2r.length c2] 28) (k := w10.heap.size) (by simp))
  have ho_w0_w11 := (ho_w0_w10.alloc (.cells #[.int .i64 d, .int .i64 f, .slice A2 ss2r.length c2] 28))
  have ho_x0_w11 := (ho_x0_w10.alloc (.cells #[.int .i64 d, .int .i64 f, .slice A2 ss2r.length c2] 28))
  have ho_x1_w11 := (ho_x1_w10.alloc (.cells #[.int .i64 d, .int .i64 f, .slice A2 ss2r.length c2] 28))
  have ho_g0_w11 := (ho_g0_w10.alloc (.cells #[.int .i64 d, .int .i64 f, .slice A2 ss2r.length c2] 28))
  have hbw_w11 : Below w.heap.size w (w10.alloc (.cells #[.int .i64 d, .int .i64 f, .slice A2 ss2r.length c2] 28)) := (by repeat (first | (with_reducible exact Below.refl _ _) | (with_reducible assumption) | (with_reducible exact (‹_ ∧ _ ∧ Below _ _ _›).2.2) | (with_reducible refine below_drewN ?_ _) | (with_reducible refine Below.drew ?_) | ((with_reducible refine Below.alloc ?_ ?hsd _); (case hsd => (first | exact Nat.le_refl _ | (simp; done) | omega | (simp; omega) | exact (‹_ ∧ _ ∧ Below _ _ _›).2.2.size))) | ((with_reducible refine Below.setCell ?_ ?hsd _); (case hsd => (first | exact Nat.le_refl _ | (simp; done) | omega | (simp; omega) | exact (‹_ ∧ _ ∧ Below _ _ _›).2.2.size))) | ((with_reducible refine Below.trans ?_ (Below.mono (by with_reducible assumption) ?hsd)); (case hsd => (first | exact Nat.le_refl _ | (simp; done) | omega | (simp; omega) | exact (‹_ ∧ _ ∧ Below _ _ _›).2.2.size))) | exact Below.refl _ _ | assumption | exact (‹_ ∧ _ ∧ Below _ _ _›).2.2 | refine below_drewN ?_ _ | refine Below.drew ?_ | refine Below.alloc ?_ (by first | exact Nat.le_refl _ | (simp; done) | omega | (simp; omega) | exact (‹_ ∧ _ ∧ Below _ _ _›).2.2.size) _ | refine Below.setCell ?_ (by first | exact Nat.le_refl _ | (simp; done) | omega | (simp; omega) | exact (‹_ ∧ _ ∧ Below _ _ _›).2.2.size) _ | refine Below.trans ?_ (Below.mono (by assumption) (by first | exact Nat.le_refl _ | (simp; done) | omega | (simp; omega) | exact (‹_ ∧ _ ∧ Below _ _ _›).2.2.size))))
  have hsw_w11 := hbw_w11.size
  have hzz_w11 : w10.heap.size ≤ (w10.alloc (.cells #[.int .i64 d, .int .i64 f, .slice A2 ss2r.length c2] 28)).heap.size := (by simp; try omega)
  generalize (w10.alloc (.cells #[.int .i64 d, .int .i64 f, .slice A2 ss2r.length c2] 28)) = w11 at *
  clear hk_aC_w10 hk_w0_w10 hk_x0_w10 ho_w0_w10 ho_x0_w10 ho_x1_w10 ho_g0_w10 hbw_w10 hsw_w10
  refine (l_eqCard_same d f _ _ _ _ _ _ ss2r _ _ _ ho_g0_w11 ho_w0_w11 (by omega) (unhide HRS)).mono ?_
  rintro e w12 ⟨rfl, hb_w12⟩
  have hk_aC_w12 := blk_next hk_aC_w11 hb_w12
  have hk_w0_w12 := blk_next hk_w0_w11 hb_w12
  have hk_x0_w12 := blk_next hk_x0_w11 hb_w12
  have hk_g0_w12 := blk_next hk_g0_w11 hb_w12
  have ho_w0_w12 := own_below ho_w0_w11 hb_w12
  have ho_x0_w12 := own_below ho_x0_w11 hb_w12
  have ho_x1_w12 := own_below ho_x1_w11 hb_w12
  have ho_g0_w12 := own_below ho_g0_w11 hb_w12
  have hbw_w12 : Below w.heap.size w w12 := (by repeat (first | (with_reducible exact Below.refl _ _) | (with_reducible assumption) | (with_reducible exact (‹_ ∧ _ ∧ Below _ _ _›).2.2) | (with_reducible refine below_drewN ?_ _) | (with_reducible refine Below.drew ?_) | ((with_reducible refine Below.alloc ?_ ?hsd _); (case hsd => (first | exact Nat.le_refl _ | (simp; done) | omega | (simp; omega) | exact (‹_ ∧ _ ∧ Below _ _ _›).2.2.size))) | ((with_reducible refine Below.setCell ?_ ?hsd _); (case hsd => (first | exact Nat.le_refl _ | (simp; done) | omega | (simp; omega) | exact (‹_ ∧ _ ∧ Below _ _ _›).2.2.size))) | ((with_reducible refine Below.trans ?_ (Below.mono (by with_reducible assumption) ?hsd)); (case hsd => (first | exact Nat.le_refl _ | (simp; done) | omega | (simp; omega) | exact (‹_ ∧ _ ∧ Below _ _ _›).2.2.size))) | exact Below.refl _ _ | assumption | exact (‹_ ∧ _ ∧ Below _ _ _›).2.2 | refine below_drewN ?_ _ | refine Below.drew ?_ | refine Below.alloc ?_ (by first | exact Nat.le_refl _ | (simp; done) | omega | (simp; omega) | exact (‹_ ∧ _ ∧ Below _ _ _›).2.2.size) _ | refine Below.setCell ?_ (by first | exact Nat.le_refl _ | (simp; done) | omega | (simp; omega) | exact (‹_ ∧ _ ∧ Below _ _ _›).2.2.size) _ | refine Below.trans ?_ (Below.mono (by assumption) (by first | exact Nat.le_refl _ | (simp; done) | omega | (simp; omega) | exact (‹_ ∧ _ ∧ Below _ _ _›).2.2.size))))
  have hsw_w12 := hbw_w12.size
  clear hk_aC_w11 hk_w0_w11 hk_x0_w11 hk_g0_w11 ho_w0_w11 ho_x0_w11 ho_x1_w11 ho_g0_w11 hbw_w11 hsw_w11 hb_w12
  obtain ⟨hx0_aC, hx1_aC, hx2_aC, hxl_aC⟩ := blk3 hk_aC_w12
  obtain ⟨hx0_w0, hx1_w0, hx2_w0, hxl_w0⟩ := blk3 hk_w0_w12
  obtain ⟨hx0_x0, hx1_x0, hx2_x0, hxl_x0⟩ := blk3 hk_x0_w12
  obtain ⟨hx0_g0, hx1_g0, hx2_g0, hxl_g0⟩ := blk3 hk_g0_w12
  go_wp2_with fail
  have hS_c := hS.below hbw_w12
  have hX_c := strs_of_own ho_x0_w12 (by have := HL.out; omega) hS.sb
  go_region_held3 (fun W => (∀ b o, b < w12.heap.size → W.cell? ⟨b, o, none⟩ = (w12).cell? ⟨b, o, none⟩) ∧ (∀ b o, b < w12.heap.size → W.frozen? ⟨b, o, none⟩ = (w12).frozen? ⟨b, o, none⟩) ∧ Below (w12.heap.size) (w12) W) (exact keep_of (by repeat (first | (with_reducible exact Below.refl _ _) | (with_reducible assumption) | (with_reducible exact (‹_ ∧ _ ∧ Below _ _ _›).2.2) | (with_reducible refine below_drewN ?_ _) | (with_reducible refine Below.drew ?_) | ((with_reducible refine Below.alloc ?_ ?hsd _); (case hsd => (first | exact Nat.le_refl _ | (simp; done) | omega | (simp; omega) | exact (‹_ ∧ _ ∧ Below _ _ _›).2.2.size))) | ((with_reducible refine Below.setCell ?_ ?hsd _); (case hsd => (first | exact Nat.le_refl _ | (simp; done) | omega | (simp; omega) | exact (‹_ ∧ _ ∧ Below _ _ _›).2.2.size))) | ((with_reducible refine Below.trans ?_ (Below.mono (by with_reducible assumption) ?hsd)); (case hsd => (first | exact Nat.le_refl _ | (simp; done) | omega | (simp; omega) | exact (‹_ ∧ _ ∧ Below _ _ _›).2.2.size))) | exact Below.refl _ _ | assumption | exact (‹_ ∧ _ ∧ Below _ _ _›).2.2 | refine below_drewN ?_ _ | refine Below.drew ?_ | refine Below.alloc ?_ (by first | exact Nat.le_refl _ | (simp; done) | omega | (simp; omega) | exact (‹_ ∧ _ ∧ Below _ _ _›).2.2.size) _ | refine Below.setCell ?_ (by first | exact Nat.le_refl _ | (simp; done) | omega | (simp; omega) | exact (‹_ ∧ _ ∧ Below _ _ _›).2.2.size) _ | refine Below.trans ?_ (Below.mono (by assumption) (by first | exact Nat.le_refl _ | (simp; done) | omega | (simp; omega) | exact (‹_ ∧ _ ∧ Below _ _ _›).2.2.size))))) (first | (go_at_call 17; have hq := (‹_ ∧ _ ∧ Below _ _ _›).2.2; refine (l_toCard d f w.heap.size A n c ss _ ?_ ?_).mono ?_; exact hS_c.below (hq.mono hsw_w12); exact Nat.le_trans hsw_w12 hq.size; rintro e wa_w13 ⟨Aa, ca, rfl, hoa, hba⟩) | (go_at_call 20; have hq2 := (‹_ ∧ _ ∧ Below _ _ _›).2.2; refine (l_eqCard_args d f wa_w13.heap.size _ _ _ _ _ _ ss _ ?_ ?_ ?_).mono ?_; exact (hX_c.below hq2).more hq2.size; exact strs_of_own hoa (by have := HL.out; omega) hS.sb; exact Nat.le_refl _; rintro e w13 ⟨rfl, hbz⟩))
  have hz7 : w12.heap.size ≤ wa_w13.heap.size := hba.size
  have hb67 : Below w12.heap.size w12 wa_w13 := (Below.refl _ _).drew.trans hba
  have hb68 : Below w12.heap.size w12 w13 := hb67.trans (hbz.mono hz7)
  clear hS_c hX_c hoa hba hbz hb67 hz7
  clear hx0_aC hx1_aC hx2_aC hxl_aC hx0_w0 hx1_w0 hx2_w0 hxl_w0 hx0_x0 hx1_x0 hx2_x0 hxl_x0 hx0_g0 hx1_g0 hx2_g0 hxl_g0
  have hk_aC_w13 := blk_next hk_aC_w12 hb68
  have hk_w0_w13 := blk_next hk_w0_w12 hb68
  have hk_x0_w13 := blk_next hk_x0_w12 hb68
  have hk_g0_w13 := blk_next hk_g0_w12 hb68
  have ho_w0_w13 := own_below ho_w0_w12 hb68
  have ho_x0_w13 := own_below ho_x0_w12 hb68
  have ho_x1_w13 := own_below ho_x1_w12 hb68
  have ho_g0_w13 := own_below ho_g0_w12 hb68
  have hbw_w13 : Below w.heap.size w w13 := (by repeat (first | (with_reducible exact Below.refl _ _) | (with_reducible assumption) | (with_reducible exact (‹_ ∧ _ ∧ Below _ _ _›).2.2) | (with_reducible refine below_drewN ?_ _) | (with_reducible refine Below.drew ?_) | ((with_reducible refine Below.alloc ?_ ?hsd _); (case hsd => (first | exact Nat.le_refl _ | (simp; done) | omega | (simp; omega) | exact (‹_ ∧ _ ∧ Below _ _ _›).2.2.size))) | ((with_reducible refine Below.setCell ?_ ?hsd _); (case hsd => (first | exact Nat.le_refl _ | (simp; done) | omega | (simp; omega) | exact (‹_ ∧ _ ∧ Below _ _ _›).2.2.size))) | ((with_reducible refine Below.trans ?_ (Below.mono (by with_reducible assumption) ?hsd)); (case hsd => (first | exact Nat.le_refl _ | (simp; done) | omega | (simp; omega) | exact (‹_ ∧ _ ∧ Below _ _ _›).2.2.size))) | exact Below.refl _ _ | assumption | exact (‹_ ∧ _ ∧ Below _ _ _›).2.2 | refine below_drewN ?_ _ | refine Below.drew ?_ | refine Below.alloc ?_ (by first | exact Nat.le_refl _ | (simp; done) | omega | (simp; omega) | exact (‹_ ∧ _ ∧ Below _ _ _›).2.2.size) _ | refine Below.setCell ?_ (by first | exact Nat.le_refl _ | (simp; done) | omega | (simp; omega) | exact (‹_ ∧ _ ∧ Below _ _ _›).2.2.size) _ | refine Below.trans ?_ (Below.mono (by assumption) (by first | exact Nat.le_refl _ | (simp; done) | omega | (simp; omega) | exact (‹_ ∧ _ ∧ Below _ _ _›).2.2.size))))
  have hsw_w13 := hbw_w13.size
  clear hk_aC_w12 hk_w0_w12 hk_x0_w12 hk_g0_w12 ho_w0_w12 ho_x0_w12 ho_x1_w12 ho_g0_w12 hbw_w12 hsw_w12 hb68
  obtain ⟨hx0_aC, hx1_aC, hx2_aC, hxl_aC⟩ := blk3 hk_aC_w13
  obtain ⟨hx0_w0, hx1_w0, hx2_w0, hxl_w0⟩ := blk3 hk_w0_w13
  obtain ⟨hx0_x0, hx1_x0, hx2_x0, hxl_x0⟩ := blk3 hk_x0_w13
  obtain ⟨hx0_g0, hx1_g0, hx2_g0, hxl_g0⟩ := blk3 hk_g0_w13
  go_wp2_with fail
  have hS_c := hSb.below hbw_w13
  have hX_c := boxes_of_own ho_x1_w13 (by have := HLb.out; omega)
  refine (l_toBoxS w.heap.size _ _ _ lb _ hS_c hsw_w13).mono ?_
  rintro e wa_w14 ⟨Aa, ca, rfl, hoa, hba⟩
  go_wp2_with fail
  refine (l_eqBoxS_same wa_w14.heap.size _ _ _ _ _ lb _ ((hX_c.below hba).more hba.size) (boxes_of_own hoa (by have := HLb.out; omega)) (Nat.le_refl _)).mono ?_
  rintro e w14 ⟨rfl, hbz⟩
  have hb67 : Below w13.heap.size w13 wa_w14 := hba
  have hz7 : w13.heap.size ≤ wa_w14.heap.size := hba.size
  have hb68 : Below w13.heap.size w13 w14 := hb67.trans (hbz.mono hz7)
  clear hS_c hX_c hoa hba hbz hb67 hz7
  clear hx0_aC hx1_aC hx2_aC hxl_aC hx0_w0 hx1_w0 hx2_w0 hxl_w0 hx0_x0 hx1_x0 hx2_x0 hxl_x0 hx0_g0 hx1_g0 hx2_g0 hxl_g0
  have hk_aC_w14 := blk_next hk_aC_w13 hb68
  have hk_w0_w14 := blk_next hk_w0_w13 hb68
  have hk_x0_w14 := blk_next hk_x0_w13 hb68
  have hk_g0_w14 := blk_next hk_g0_w13 hb68
  have ho_w0_w14 := own_below ho_w0_w13 hb68
  have ho_x0_w14 := own_below ho_x0_w13 hb68
  have ho_x1_w14 := own_below ho_x1_w13 hb68
  have ho_g0_w14 := own_below ho_g0_w13 hb68
  have hbw_w14 : Below w.heap.size w w14 := (by repeat (first | (with_reducible exact Below.refl _ _) | (with_reducible assumption) | (with_reducible exact (‹_ ∧ _ ∧ Below _ _ _›).2.2) | (with_reducible refine below_drewN ?_ _) | (with_reducible refine Below.drew ?_) | ((with_reducible refine Below.alloc ?_ ?hsd _); (case hsd => (first | exact Nat.le_refl _ | (simp; done) | omega | (simp; omega) | exact (‹_ ∧ _ ∧ Below _ _ _›).2.2.size))) | ((with_reducible refine Below.setCell ?_ ?hsd _); (case hsd => (first | exact Nat.le_refl _ | (simp; done) | omega | (simp; omega) | exact (‹_ ∧ _ ∧ Below _ _ _›).2.2.size))) | ((with_reducible refine Below.trans ?_ (Below.mono (by with_reducible assumption) ?hsd)); (case hsd => (first | exact Nat.le_refl _ | (simp; done) | omega | (simp; omega) | exact (‹_ ∧ _ ∧ Below _ _ _›).2.2.size))) | exact Below.refl _ _ | assumption | exact (‹_ ∧ _ ∧ Below _ _ _›).2.2 | refine below_drewN ?_ _ | refine Below.drew ?_ | refine Below.alloc ?_ (by first | exact Nat.le_refl _ | (simp; done) | omega | (simp; omega) | exact (‹_ ∧ _ ∧ Below _ _ _›).2.2.size) _ | refine Below.setCell ?_ (by first | exact Nat.le_refl _ | (simp; done) | omega | (simp; omega) | exact (‹_ ∧ _ ∧ Below _ _ _›).2.2.size) _ | refine Below.trans ?_ (Below.mono (by assumption) (by first | exact Nat.le_refl _ | (simp; done) | omega | (simp; omega) | exact (‹_ ∧ _ ∧ Below _ _ _›).2.2.size))))
  have hsw_w14 := hbw_w14.size
  clear hk_aC_w13 hk_w0_w13 hk_x0_w13 hk_g0_w13 ho_w0_w13 ho_x0_w13 ho_x1_w13 ho_g0_w13 hbw_w13 hsw_w13 hb68
  obtain ⟨hx0_aC, hx1_aC, hx2_aC, hxl_aC⟩ := blk3 hk_aC_w14
  obtain ⟨hx0_w0, hx1_w0, hx2_w0, hxl_w0⟩ := blk3 hk_w0_w14
  obtain ⟨hx0_x0, hx1_x0, hx2_x0, hxl_x0⟩ := blk3 hk_x0_w14
  obtain ⟨hx0_g0, hx1_g0, hx2_g0, hxl_g0⟩ := blk3 hk_g0_w14
  go_wp2_with fail
  refine (l_markCard _ _ _ _ _ _ _ (1) _ ho_x0_w14 (by have hq_ := HL.out; have hq_b := HLb.out; omega) (by have hq_ := HL.out; have hq_b := HLb.out; omega) (by have := HL.out; omega)).mono ?_
  rintro e w15 ⟨rfl, hm_w15, hg_w15⟩
  have hbm_w15 := below_markedk (B := w.heap.size) ho_x0_w14 hg_w15 (by omega) (by omega)
  clear hx0_aC hx1_aC hx2_aC hxl_aC hx0_w0 hx1_w0 hx2_w0 hxl_w0 hx0_x0 hx1_x0 hx2_x0 hxl_x0 hx0_g0 hx1_g0 hx2_g0 hxl_g0
  have hk_aC_w15 := blk_markedk hk_aC_w14 hg_w15 ho_x0_w14 (by decide)
  have hk_w0_w15 := blk_markedk hk_w0_w14 hg_w15 ho_x0_w14 (by decide)
  have hk_x0_w15 := blk_markedk hk_x0_w14 hg_w15 ho_x0_w14 (by decide)
  have hk_g0_w15 := blk_markedk hk_g0_w14 hg_w15 ho_x0_w14 (by decide)
  have ho_w0_w15 := own_elderk ho_w0_w14 (unhide hlt_w0_x0) (gebk ho_x0_w14) hg_w15
  have ho_x1_w15 := own_newerk ho_x1_w14 (unhide hlt_x0_x1) hg_w15
  have ho_g0_w15 := own_newerk ho_g0_w14 (unhide hlt_x0_g0) hg_w15
  have hbw_w15 : Below w.heap.size w w15 := (by repeat (first | (with_reducible exact Below.refl _ _) | (with_reducible assumption) | (with_reducible exact (‹_ ∧ _ ∧ Below _ _ _›).2.2) | (with_reducible refine below_drewN ?_ _) | (with_reducible refine Below.drew ?_) | ((with_reducible refine Below.alloc ?_ ?hsd _); (case hsd => (first | exact Nat.le_refl _ | (simp; done) | omega | (simp; omega) | exact (‹_ ∧ _ ∧ Below _ _ _›).2.2.size))) | ((with_reducible refine Below.setCell ?_ ?hsd _); (case hsd => (first | exact Nat.le_refl _ | (simp; done) | omega | (simp; omega) | exact (‹_ ∧ _ ∧ Below _ _ _›).2.2.size))) | ((with_reducible refine Below.trans ?_ (Below.mono (by with_reducible assumption) ?hsd)); (case hsd => (first | exact Nat.le_refl _ | (simp; done) | omega | (simp; omega) | exact (‹_ ∧ _ ∧ Below _ _ _›).2.2.size))) | exact Below.refl _ _ | assumption | exact (‹_ ∧ _ ∧ Below _ _ _›).2.2 | refine below_drewN ?_ _ | refine Below.drew ?_ | refine Below.alloc ?_ (by first | exact Nat.le_refl _ | (simp; done) | omega | (simp; omega) | exact (‹_ ∧ _ ∧ Below _ _ _›).2.2.size) _ | refine Below.setCell ?_ (by first | exact Nat.le_refl _ | (simp; done) | omega | (simp; omega) | exact (‹_ ∧ _ ∧ Below _ _ _›).2.2.size) _ | refine Below.trans ?_ (Below.mono (by assumption) (by first | exact Nat.le_refl _ | (simp; done) | omega | (simp; omega) | exact (‹_ ∧ _ ∧ Below _ _ _›).2.2.size))))
  have hsw_w15 := hbw_w15.size
  clear hk_aC_w14 hk_w0_w14 hk_x0_w14 hk_g0_w14 ho_w0_w14 ho_x0_w14 ho_x1_w14 ho_g0_w14 hbw_w14 hsw_w14 hbm_w15
  clear hm_w15
  obtain ⟨hx0_aC, hx1_aC, hx2_aC, hxl_aC⟩ := blk3 hk_aC_w15
  obtain ⟨hx0_w0, hx1_w0, hx2_w0, hxl_w0⟩ := blk3 hk_w0_w15
  obtain ⟨hx0_x0, hx1_x0, hx2_x0, hxl_x0⟩ := blk3 hk_x0_w15
  obtain ⟨hx0_g0, hx1_g0, hx2_g0, hxl_g0⟩ := blk3 hk_g0_w15
  go_wp2_with fail
  refine (l_markBoxS _ _ _ _ _ (1 + (ss.length : Int)) _ ho_x1_w15 (by have hq_ := HL.out; have hq_b := HLb.out; omega) (by have hq_ := HL.out; have hq_b := HLb.out; omega) (by have hq_ := HL.out; have hq_b := HLb.out; omega)).mono ?_
  rintro e w16 ⟨rfl, hm_w16, hg_w16⟩
  have hbm_w16 := below_markedk (B := w.heap.size) ho_x1_w15 hg_w16 (by omega) (by omega)
  clear hx0_aC hx1_aC hx2_aC hxl_aC hx0_w0 hx1_w0 hx2_w0 hxl_w0 hx0_x0 hx1_x0 hx2_x0 hxl_x0 hx0_g0 hx1_g0 hx2_g0 hxl_g0
  have hk_aC_w16 := blk_markedk hk_aC_w15 hg_w16 ho_x1_w15 (by decide)
  have hk_w0_w16 := blk_markedk hk_w0_w15 hg_w16 ho_x1_w15 (by decide)
  have hk_x0_w16 := blk_markedk hk_x0_w15 hg_w16 ho_x1_w15 (by decide)
  have hk_g0_w16 := blk_markedk hk_g0_w15 hg_w16 ho_x1_w15 (by decide)
  have ho_w0_w16 := own_elderk ho_w0_w15 (unhide hlt_w0_x1) (gebk ho_x1_w15) hg_w16
  have ho_g0_w16 := own_newerk ho_g0_w15 (unhide hlt_x1_g0) hg_w16
  have hbw_w16 : Below w.heap.size w w16 := (by repeat (first | (with_reducible exact Below.refl _ _) | (with_reducible assumption) | (with_reducible exact (‹_ ∧ _ ∧ Below _ _ _›).2.2) | (with_reducible refine below_drewN ?_ _) | (with_reducible refine Below.drew ?_) | ((with_reducible refine Below.alloc ?_ ?hsd _); (case hsd => (first | exact Nat.le_refl _ | (simp; done) | omega | (simp; omega) | exact (‹_ ∧ _ ∧ Below _ _ _›).2.2.size))) | ((with_reducible refine Below.setCell ?_ ?hsd _); (case hsd => (first | exact Nat.le_refl _ | (simp; done) | omega | (simp; omega) | exact (‹_ ∧ _ ∧ Below _ _ _›).2.2.size))) | ((with_reducible refine Below.trans ?_ (Below.mono (by with_reducible assumption) ?hsd)); (case hsd => (first | exact Nat.le_refl _ | (simp; done) | omega | (simp; omega) | exact (‹_ ∧ _ ∧ Below _ _ _›).2.2.size))) | exact Below.refl _ _ | assumption | exact (‹_ ∧ _ ∧ Below _ _ _›).2.2 | refine below_drewN ?_ _ | refine Below.drew ?_ | refine Below.alloc ?_ (by first | exact Nat.le_refl _ | (simp; done) | omega | (simp; omega) | exact (‹_ ∧ _ ∧ Below _ _ _›).2.2.size) _ | refine Below.setCell ?_ (by first | exact Nat.le_refl _ | (simp; done) | omega | (simp; omega) | exact (‹_ ∧ _ ∧ Below _ _ _›).2.2.size) _ | refine Below.trans ?_ (Below.mono (by assumption) (by first | exact Nat.le_refl _ | (simp; done) | omega | (simp; omega) | exact (‹_ ∧ _ ∧ Below _ _ _›).2.2.size))))
  have hsw_w16 := hbw_w16.size
  clear hk_aC_w15 hk_w0_w15 hk_x0_w15 hk_g0_w15 ho_w0_w15 ho_x1_w15 ho_g0_w15 hbw_w15 hsw_w15 hbm_w16
  clear hm_w16
  obtain ⟨hx0_aC, hx1_aC, hx2_aC, hxl_aC⟩ := blk3 hk_aC_w16
  obtain ⟨hx0_w0, hx1_w0, hx2_w0, hxl_w0⟩ := blk3 hk_w0_w16
  obtain ⟨hx0_x0, hx1_x0, hx2_x0, hxl_x0⟩ := blk3 hk_x0_w16
  obtain ⟨hx0_g0, hx1_g0, hx2_g0, hxl_g0⟩ := blk3 hk_g0_w16
  go_wp2_with fail
  refine (l_eqCard_same d f _ _ _ _ _ _ ss2r _ _ _ ho_g0_w16 ho_w0_w16 (by omega) (unhide HRS)).mono ?_
  rintro e w17 ⟨rfl, hb_w17⟩
  clear hx0_aC hx1_aC hx2_aC hxl_aC hx0_w0 hx1_w0 hx2_w0 hxl_w0 hx0_x0 hx1_x0 hx2_x0 hxl_x0 hx0_g0 hx1_g0 hx2_g0 hxl_g0
  have hk_aC_w17 := blk_next hk_aC_w16 hb_w17
  have hk_w0_w17 := blk_next hk_w0_w16 hb_w17
  have hk_x0_w17 := blk_next hk_x0_w16 hb_w17
  have hk_g0_w17 := blk_next hk_g0_w16 hb_w17
  have ho_w0_w17 := own_below ho_w0_w16 hb_w17
  have ho_g0_w17 := own_below ho_g0_w16 hb_w17
  have hbw_w17 : Below w.heap.size w w17 := (by repeat (first | (with_reducible exact Below.refl _ _) | (with_reducible assumption) | (with_reducible exact (‹_ ∧ _ ∧ Below _ _ _›).2.2) | (with_reducible refine below_drewN ?_ _) | (with_reducible refine Below.drew ?_) | ((with_reducible refine Below.alloc ?_ ?hsd _); (case hsd => (first | exact Nat.le_refl _ | (simp; done) | omega | (simp; omega) | exact (‹_ ∧ _ ∧ Below _ _ _›).2.2.size))) | ((with_reducible refine Below.setCell ?_ ?hsd _); (case hsd => (first | exact Nat.le_refl _ | (simp; done) | omega | (simp; omega) | exact (‹_ ∧ _ ∧ Below _ _ _›).2.2.size))) | ((with_reducible refine Below.trans ?_ (Below.mono (by with_reducible assumption) ?hsd)); (case hsd => (first | exact Nat.le_refl _ | (simp; done) | omega | (simp; omega) | exact (‹_ ∧ _ ∧ Below _ _ _›).2.2.size))) | exact Below.refl _ _ | assumption | exact (‹_ ∧ _ ∧ Below _ _ _›).2.2 | refine below_drewN ?_ _ | refine Below.drew ?_ | refine Below.alloc ?_ (by first | exact Nat.le_refl _ | (simp; done) | omega | (simp; omega) | exact (‹_ ∧ _ ∧ Below _ _ _›).2.2.size) _ | refine Below.setCell ?_ (by first | exact Nat.le_refl _ | (simp; done) | omega | (simp; omega) | exact (‹_ ∧ _ ∧ Below _ _ _›).2.2.size) _ | refine Below.trans ?_ (Below.mono (by assumption) (by first | exact Nat.le_refl _ | (simp; done) | omega | (simp; omega) | exact (‹_ ∧ _ ∧ Below _ _ _›).2.2.size))))
  have hsw_w17 := hbw_w17.size
  clear hk_aC_w16 hk_w0_w16 hk_x0_w16 hk_g0_w16 ho_w0_w16 ho_g0_w16 hbw_w16 hsw_w16 hb_w17
  obtain ⟨hx0_aC, hx1_aC, hx2_aC, hxl_aC⟩ := blk3 hk_aC_w17
  obtain ⟨hx0_w0, hx1_w0, hx2_w0, hxl_w0⟩ := blk3 hk_w0_w17
  obtain ⟨hx0_x0, hx1_x0, hx2_x0, hxl_x0⟩ := blk3 hk_x0_w17
  obtain ⟨hx0_g0, hx1_g0, hx2_g0, hxl_g0⟩ := blk3 hk_g0_w17
  go_wp2_with fail
  refine (l_markCard _ _ _ _ _ _ _ (1) _ ho_g0_w17 (by have hq_ := HL.out; have hq_b := HLb.out; omega) (by have hq_ := HL.out; have hq_b := HLb.out; omega) (by omega)).mono ?_
  rintro e w18 ⟨rfl, hm_w18, hg_w18⟩
  have hbm_w18 := below_markedk (B := w.heap.size) ho_g0_w17 hg_w18 (by omega) (by omega)
  clear hx0_aC hx1_aC hx2_aC hxl_aC hx0_w0 hx1_w0 hx2_w0 hxl_w0 hx0_x0 hx1_x0 hx2_x0 hxl_x0 hx0_g0 hx1_g0 hx2_g0 hxl_g0
  have hk_aC_w18 := blk_markedk hk_aC_w17 hg_w18 ho_g0_w17 (by decide)
  have hk_w0_w18 := blk_markedk hk_w0_w17 hg_w18 ho_g0_w17 (by decide)
  have hk_x0_w18 := blk_markedk hk_x0_w17 hg_w18 ho_g0_w17 (by decide)
  have hk_g0_w18 := blk_markedk hk_g0_w17 hg_w18 ho_g0_w17 (by decide)
  have ho_w0_w18 := own_elderk ho_w0_w17 (unhide hlt_w0_g0) (gebk ho_g0_w17) hg_w18
  have hbw_w18 : Below w.heap.size w w18 := (by repeat (first | (with_reducible exact Below.refl _ _) | (with_reducible assumption) | (with_reducible exact (‹_ ∧ _ ∧ Below _ _ _›).2.2) | (with_reducible refine below_drewN ?_ _) | (with_reducible refine Below.drew ?_) | ((with_reducible refine Below.alloc ?_ ?hsd _); (case hsd => (first | exact Nat.le_refl _ | (simp; done) | omega | (simp; omega) | exact (‹_ ∧ _ ∧ Below _ _ _›).2.2.size))) | ((with_reducible refine Below.setCell ?_ ?hsd _); (case hsd => (first | exact Nat.le_refl _ | (simp; done) | omega | (simp; omega) | exact (‹_ ∧ _ ∧ Below _ _ _›).2.2.size))) | ((with_reducible refine Below.trans ?_ (Below.mono (by with_reducible assumption) ?hsd)); (case hsd => (first | exact Nat.le_refl _ | (simp; done) | omega | (simp; omega) | exact (‹_ ∧ _ ∧ Below _ _ _›).2.2.size))) | exact Below.refl _ _ | assumption | exact (‹_ ∧ _ ∧ Below _ _ _›).2.2 | refine below_drewN ?_ _ | refine Below.drew ?_ | refine Below.alloc ?_ (by first | exact Nat.le_refl _ | (simp; done) | omega | (simp; omega) | exact (‹_ ∧ _ ∧ Below _ _ _›).2.2.size) _ | refine Below.setCell ?_ (by first | exact Nat.le_refl _ | (simp; done) | omega | (simp; omega) | exact (‹_ ∧ _ ∧ Below _ _ _›).2.2.size) _ | refine Below.trans ?_ (Below.mono (by assumption) (by first | exact Nat.le_refl _ | (simp; done) | omega | (simp; omega) | exact (‹_ ∧ _ ∧ Below _ _ _›).2.2.size))))
  have hsw_w18 := hbw_w18.size
  clear hk_aC_w17 hk_w0_w17 hk_x0_w17 hk_g0_w17 ho_w0_w17 ho_g0_w17 hbw_w17 hsw_w17 hbm_w18
  obtain ⟨hx0_aC, hx1_aC, hx2_aC, hxl_aC⟩ := blk3 hk_aC_w18
  obtain ⟨hx0_w0, hx1_w0, hx2_w0, hxl_w0⟩ := blk3 hk_w0_w18
  obtain ⟨hx0_x0, hx1_x0, hx2_x0, hxl_x0⟩ := blk3 hk_x0_w18
  obtain ⟨hx0_g0, hx1_g0, hx2_g0, hxl_g0⟩ := blk3 hk_g0_w18
  go_wp2_with fail
  refine (l_heldCard _ _ w18.heap.size _ _ _ 1 _ (Reads.of_own hm_w18) (Nat.le_refl _) (by omega) (by omega) (by omega)).mono ?_
  rintro e w19 ⟨rfl, hb_w19⟩
  clear hx0_aC hx1_aC hx2_aC hxl_aC hx0_w0 hx1_w0 hx2_w0 hxl_w0 hx0_x0 hx1_x0 hx2_x0 hxl_x0 hx0_g0 hx1_g0 hx2_g0 hxl_g0
  have hk_aC_w19 := blk_next hk_aC_w18 hb_w19
  have hk_w0_w19 := blk_next hk_w0_w18 hb_w19
  have hk_x0_w19 := blk_next hk_x0_w18 hb_w19
  have hk_g0_w19 := blk_next hk_g0_w18 hb_w19
  have ho_w0_w19 := own_below ho_w0_w18 hb_w19
  have ho_g0_w19 := own_below hm_w18 hb_w19
  have hbw_w19 : Below w.heap.size w w19 := (by repeat (first | (with_reducible exact Below.refl _ _) | (with_reducible assumption) | (with_reducible exact (‹_ ∧ _ ∧ Below _ _ _›).2.2) | (with_reducible refine below_drewN ?_ _) | (with_reducible refine Below.drew ?_) | ((with_reducible refine Below.alloc ?_ ?hsd _); (case hsd => (first | exact Nat.le_refl _ | (simp; done) | omega | (simp; omega) | exact (‹_ ∧ _ ∧ Below _ _ _›).2.2.size))) | ((with_reducible refine Below.setCell ?_ ?hsd _); (case hsd => (first | exact Nat.le_refl _ | (simp; done) | omega | (simp; omega) | exact (‹_ ∧ _ ∧ Below _ _ _›).2.2.size))) | ((with_reducible refine Below.trans ?_ (Below.mono (by with_reducible assumption) ?hsd)); (case hsd => (first | exact Nat.le_refl _ | (simp; done) | omega | (simp; omega) | exact (‹_ ∧ _ ∧ Below _ _ _›).2.2.size))) | exact Below.refl _ _ | assumption | exact (‹_ ∧ _ ∧ Below _ _ _›).2.2 | refine below_drewN ?_ _ | refine Below.drew ?_ | refine Below.alloc ?_ (by first | exact Nat.le_refl _ | (simp; done) | omega | (simp; omega) | exact (‹_ ∧ _ ∧ Below _ _ _›).2.2.size) _ | refine Below.setCell ?_ (by first | exact Nat.le_refl _ | (simp; done) | omega | (simp; omega) | exact (‹_ ∧ _ ∧ Below _ _ _›).2.2.size) _ | refine Below.trans ?_ (Below.mono (by assumption) (by first | exact Nat.le_refl _ | (simp; done) | omega | (simp; omega) | exact (‹_ ∧ _ ∧ Below _ _ _›).2.2.size))))
  have hsw_w19 := hbw_w19.size
  clear hk_aC_w18 hk_w0_w18 hk_x0_w18 hk_g0_w18 ho_w0_w18 hm_w18 hbw_w18 hsw_w18 hb_w19
  obtain ⟨hx0_aC, hx1_aC, hx2_aC, hxl_aC⟩ := blk3 hk_aC_w19
  obtain ⟨hx0_w0, hx1_w0, hx2_w0, hxl_w0⟩ := blk3 hk_w0_w19
  obtain ⟨hx0_x0, hx1_x0, hx2_x0, hxl_x0⟩ := blk3 hk_x0_w19
  obtain ⟨hx0_g0, hx1_g0, hx2_g0, hxl_g0⟩ := blk3 hk_g0_w19
  go_wp2_with fail
  refine (l_toCard d f w.heap.size A n c ss _ (hS.below hbw_w19) hsw_w19).mono ?_
  rintro e w20 ⟨At3_0, ct3_0, rfl, hon, hb_w20⟩
  clear hx0_aC hx1_aC hx2_aC hxl_aC hx0_w0 hx1_w0 hx2_w0 hxl_w0 hx0_x0 hx1_x0 hx2_x0 hxl_x0 hx0_g0 hx1_g0 hx2_g0 hxl_g0
  have hk_aC_w20 := blk_next hk_aC_w19 hb_w20
  have hk_w0_w20 := blk_next hk_w0_w19 hb_w20
  have hk_x0_w20 := blk_next hk_x0_w19 hb_w20
  have hk_g0_w20 := blk_next hk_g0_w19 hb_w20
  have ho_w0_w20 := own_below ho_w0_w19 hb_w20
  have ho_g0_w20 := own_below ho_g0_w19 hb_w20
  have hbw_w20 : Below w.heap.size w w20 := (by repeat (first | (with_reducible exact Below.refl _ _) | (with_reducible assumption) | (with_reducible exact (‹_ ∧ _ ∧ Below _ _ _›).2.2) | (with_reducible refine below_drewN ?_ _) | (with_reducible refine Below.drew ?_) | ((with_reducible refine Below.alloc ?_ ?hsd _); (case hsd => (first | exact Nat.le_refl _ | (simp; done) | omega | (simp; omega) | exact (‹_ ∧ _ ∧ Below _ _ _›).2.2.size))) | ((with_reducible refine Below.setCell ?_ ?hsd _); (case hsd => (first | exact Nat.le_refl _ | (simp; done) | omega | (simp; omega) | exact (‹_ ∧ _ ∧ Below _ _ _›).2.2.size))) | ((with_reducible refine Below.trans ?_ (Below.mono (by with_reducible assumption) ?hsd)); (case hsd => (first | exact Nat.le_refl _ | (simp; done) | omega | (simp; omega) | exact (‹_ ∧ _ ∧ Below _ _ _›).2.2.size))) | exact Below.refl _ _ | assumption | exact (‹_ ∧ _ ∧ Below _ _ _›).2.2 | refine below_drewN ?_ _ | refine Below.drew ?_ | refine Below.alloc ?_ (by first | exact Nat.le_refl _ | (simp; done) | omega | (simp; omega) | exact (‹_ ∧ _ ∧ Below _ _ _›).2.2.size) _ | refine Below.setCell ?_ (by first | exact Nat.le_refl _ | (simp; done) | omega | (simp; omega) | exact (‹_ ∧ _ ∧ Below _ _ _›).2.2.size) _ | refine Below.trans ?_ (Below.mono (by assumption) (by first | exact Nat.le_refl _ | (simp; done) | omega | (simp; omega) | exact (‹_ ∧ _ ∧ Below _ _ _›).2.2.size))))
  have hsw_w20 := hbw_w20.size
  clear hk_aC_w19 hk_w0_w19 hk_x0_w19 hk_g0_w19 ho_w0_w19 ho_g0_w19 hbw_w19 hsw_w19 hb_w20
  have ho_t3_0_w20 := hon
  clear hon
  go_wp2_with fail
  refine (l_toBoxS w.heap.size _ _ _ lb _ (hSb.below hbw_w20) hsw_w20).mono ?_
  rintro e w21 ⟨At3_1, ct3_1, rfl, hon, hb_w21⟩
  have hk_aC_w21 := blk_next hk_aC_w20 hb_w21
  have hk_w0_w21 := blk_next hk_w0_w20 hb_w21
  have hk_x0_w21 := blk_next hk_x0_w20 hb_w21
  have hk_g0_w21 := blk_next hk_g0_w20 hb_w21
  have ho_w0_w21 := own_below ho_w0_w20 hb_w21
  have ho_g0_w21 := own_below ho_g0_w20 hb_w21
  have ho_t3_0_w21 := own_below ho_t3_0_w20 hb_w21
  have hbw_w21 : Below w.heap.size w w21 := (by repeat (first | (with_reducible exact Below.refl _ _) | (with_reducible assumption) | (with_reducible exact (‹_ ∧ _ ∧ Below _ _ _›).2.2) | (with_reducible refine below_drewN ?_ _) | (with_reducible refine Below.drew ?_) | ((with_reducible refine Below.alloc ?_ ?hsd _); (case hsd => (first | exact Nat.le_refl _ | (simp; done) | omega | (simp; omega) | exact (‹_ ∧ _ ∧ Below _ _ _›).2.2.size))) | ((with_reducible refine Below.setCell ?_ ?hsd _); (case hsd => (first | exact Nat.le_refl _ | (simp; done) | omega | (simp; omega) | exact (‹_ ∧ _ ∧ Below _ _ _›).2.2.size))) | ((with_reducible refine Below.trans ?_ (Below.mono (by with_reducible assumption) ?hsd)); (case hsd => (first | exact Nat.le_refl _ | (simp; done) | omega | (simp; omega) | exact (‹_ ∧ _ ∧ Below _ _ _›).2.2.size))) | exact Below.refl _ _ | assumption | exact (‹_ ∧ _ ∧ Below _ _ _›).2.2 | refine below_drewN ?_ _ | refine Below.drew ?_ | refine Below.alloc ?_ (by first | exact Nat.le_refl _ | (simp; done) | omega | (simp; omega) | exact (‹_ ∧ _ ∧ Below _ _ _›).2.2.size) _ | refine Below.setCell ?_ (by first | exact Nat.le_refl _ | (simp; done) | omega | (simp; omega) | exact (‹_ ∧ _ ∧ Below _ _ _›).2.2.size) _ | refine Below.trans ?_ (Below.mono (by assumption) (by first | exact Nat.le_refl _ | (simp; done) | omega | (simp; omega) | exact (‹_ ∧ _ ∧ Below _ _ _›).2.2.size))))
  have hsw_w21 := hbw_w21.size
  clear hk_aC_w20 hk_w0_w20 hk_x0_w20 hk_g0_w20 ho_w0_w20 ho_g0_w20 ho_t3_0_w20 hbw_w20 hsw_w20 hb_w21
  have ho_t3_1_w21 := hon
  clear hon
  go_wp2_with fail
  refine (unhide HIMPL _ _ _ (strs_of_own ho_t3_0_w21 (by have := HL.out; omega) hS.sb) (own_cap ho_t3_0_w21) _ _ (boxes_of_own ho_t3_1_w21 (by have := HLb.out; omega))).mono ?_
  rintro e w22 ⟨A3, c3, rfl, hon, hb_w22⟩
  clear ho_t3_0_w21
  clear ho_t3_1_w21
  have hbase_h0 : w.heap.size ≤ w21.heap.size := hsw_w21
  have hlt_w0_h0 := hide (ltbk ho_w0_w21)
  have hlt_g0_h0 := hide (ltbk ho_g0_w21)
  have hk_aC_w22 := blk_next hk_aC_w21 hb_w22
  have hk_w0_w22 := blk_next hk_w0_w21 hb_w22
  have hk_x0_w22 := blk_next hk_x0_w21 hb_w22
  have hk_g0_w22 := blk_next hk_g0_w21 hb_w22
  have ho_w0_w22 := own_below ho_w0_w21 hb_w22
  have ho_g0_w22 := own_below ho_g0_w21 hb_w22
  have hbw_w22 : Below w.heap.size w w22 := (by repeat (first | (with_reducible exact Below.refl _ _) | (with_reducible assumption) | (with_reducible exact (‹_ ∧ _ ∧ Below _ _ _›).2.2) | (with_reducible refine below_drewN ?_ _) | (with_reducible refine Below.drew ?_) | ((with_reducible refine Below.alloc ?_ ?hsd _); (case hsd => (first | exact Nat.le_refl _ | (simp; done) | omega | (simp; omega) | exact (‹_ ∧ _ ∧ Below _ _ _›).2.2.size))) | ((with_reducible refine Below.setCell ?_ ?hsd _); (case hsd => (first | exact Nat.le_refl _ | (simp; done) | omega | (simp; omega) | exact (‹_ ∧ _ ∧ Below _ _ _›).2.2.size))) | ((with_reducible refine Below.trans ?_ (Below.mono (by with_reducible assumption) ?hsd)); (case hsd => (first | exact Nat.le_refl _ | (simp; done) | omega | (simp; omega) | exact (‹_ ∧ _ ∧ Below _ _ _›).2.2.size))) | exact Below.refl _ _ | assumption | exact (‹_ ∧ _ ∧ Below _ _ _›).2.2 | refine below_drewN ?_ _ | refine Below.drew ?_ | refine Below.alloc ?_ (by first | exact Nat.le_refl _ | (simp; done) | omega | (simp; omega) | exact (‹_ ∧ _ ∧ Below _ _ _›).2.2.size) _ | refine Below.setCell ?_ (by first | exact Nat.le_refl _ | (simp; done) | omega | (simp; omega) | exact (‹_ ∧ _ ∧ Below _ _ _›).2.2.size) _ | refine Below.trans ?_ (Below.mono (by assumption) (by first | exact Nat.le_refl _ | (simp; done) | omega | (simp; omega) | exact (‹_ ∧ _ ∧ Below _ _ _›).2.2.size))))
  have hsw_w22 := hbw_w22.size
  clear hk_aC_w21 hk_w0_w21 hk_x0_w21 hk_g0_w21 ho_w0_w21 ho_g0_w21 hbw_w21 hsw_w21 hb_w22
  have ho_h0_w22 := hon
  clear hon
  obtain ⟨hx0_aC, hx1_aC, hx2_aC, hxl_aC⟩ := blk3 hk_aC_w22
  obtain ⟨hx0_w0, hx1_w0, hx2_w0, hxl_w0⟩ := blk3 hk_w0_w22
  obtain ⟨hx0_x0, hx1_x0, hx2_x0, hxl_x0⟩ := blk3 hk_x0_w22
  obtain ⟨hx0_g0, hx1_g0, hx2_g0, hxl_g0⟩ := blk3 hk_g0_w22
  go_wp2_with fail
  clear hx0_aC hx1_aC hx2_aC hxl_aC hx0_w0 hx1_w0 hx2_w0 hxl_w0 hx0_x0 hx1_x0 hx2_x0 hxl_x0 hx0_g0 hx1_g0 hx2_g0 hxl_g0
  have hk_aC_w23 := (blk_alloc hk_aC_w22 (.cells #[.int .i64 d, .int .i64 f, .slice A3 ss2r.length c3] 28))
  have hk_w0_w23 := (blk_alloc hk_w0_w22 (.cells #[.int .i64 d, .int .i64 f, .slice A3 ss2r.length c3] 28))
  have hk_x0_w23 := (blk_alloc hk_x0_w22 (.cells #[.int .i64 d, .int .i64 f, .slice A3 ss2r.length c3] 28))
  have hk_g0_w23 := (blk_alloc hk_g0_w22 (.cells #[.int .i64 d, .int .i64 f, .slice A3 ss2r.length c3] 28))
  have hk_h0_w23 := (blk_new_at w22 (.cells #[.int .i64 d, .int .i64 f, .slice A3 ss2r.length c3] 28) (k := w22.heap.size) (by simp))
  have ho_w0_w23 := (ho_w0_w22.alloc (.cells #[.int .i64 d, .int .i64 f, .slice A3 ss2r.length c3] 28))
  have ho_g0_w23 := (ho_g0_w22.alloc (.cells #[.int .i64 d, .int .i64 f, .slice A3 ss2r.length c3] 28))
  have ho_h0_w23 := (ho_h0_w22.alloc (.cells #[.int .i64 d, .int .i64 f, .slice A3 ss2r.length c3] 28))
  have hbw_w23 : Below w.heap.size w (w22.alloc (.cells #[.int .i64 d, .int .i64 f, .slice A3 ss2r.length c3] 28)) := (by repeat (first | (with_reducible exact Below.refl _ _) | (with_reducible assumption) | (with_reducible exact (‹_ ∧ _ ∧ Below _ _ _›).2.2) | (with_reducible refine below_drewN ?_ _) | (with_reducible refine Below.drew ?_) | ((with_reducible refine Below.alloc ?_ ?hsd _); (case hsd => (first | exact Nat.le_refl _ | (simp; done) | omega | (simp; omega) | exact (‹_ ∧ _ ∧ Below _ _ _›).2.2.size))) | ((with_reducible refine Below.setCell ?_ ?hsd _); (case hsd => (first | exact Nat.le_refl _ | (simp; done) | omega | (simp; omega) | exact (‹_ ∧ _ ∧ Below _ _ _›).2.2.size))) | ((with_reducible refine Below.trans ?_ (Below.mono (by with_reducible assumption) ?hsd)); (case hsd => (first | exact Nat.le_refl _ | (simp; done) | omega | (simp; omega) | exact (‹_ ∧ _ ∧ Below _ _ _›).2.2.size))) | exact Below.refl _ _ | assumption | exact (‹_ ∧ _ ∧ Below _ _ _›).2.2 | refine below_drewN ?_ _ | refine Below.drew ?_ | refine Below.alloc ?_ (by first | exact Nat.le_refl _ | (simp; done) | omega | (simp; omega) | exact (‹_ ∧ _ ∧ Below _ _ _›).2.2.size) _ | refine Below.setCell ?_ (by first | exact Nat.le_refl _ | (simp; done) | omega | (simp; omega) | exact (‹_ ∧ _ ∧ Below _ _ _›).2.2.size) _ | refine Below.trans ?_ (Below.mono (by assumption) (by first | exact Nat.le_refl _ | (simp; done) | omega | (simp; omega) | exact (‹_ ∧ _ ∧ Below _ _ _›).2.2.size))))
  have hsw_w23 := hbw_w23.size
  have hzz_w23 : w22.heap.size ≤ (w22.alloc (.cells #[.int .i64 d, .int .i64 f, .slice A3 ss2r.length c3] 28)).heap.size := (by simp; try omega)
  generalize (w22.alloc (.cells #[.int .i64 d, .int .i64 f, .slice A3 ss2r.length c3] 28)) = w23 at *
  clear hk_aC_w22 hk_w0_w22 hk_x0_w22 hk_g0_w22 ho_w0_w22 ho_g0_w22 ho_h0_w22 hbw_w22 hsw_w22
  refine (l_eqCard_same d f _ _ _ _ _ _ ss2r _ _ _ ho_h0_w23 ho_w0_w23 (by omega) (unhide HRS)).mono ?_
  rintro e w24 ⟨rfl, hb_w24⟩
  have hk_aC_w24 := blk_next hk_aC_w23 hb_w24
  have hk_w0_w24 := blk_next hk_w0_w23 hb_w24
  have hk_x0_w24 := blk_next hk_x0_w23 hb_w24
  have hk_g0_w24 := blk_next hk_g0_w23 hb_w24
  have hk_h0_w24 := blk_next hk_h0_w23 hb_w24
  have ho_w0_w24 := own_below ho_w0_w23 hb_w24
  have ho_g0_w24 := own_below ho_g0_w23 hb_w24
  have ho_h0_w24 := own_below ho_h0_w23 hb_w24
  have hbw_w24 : Below w.heap.size w w24 := (by repeat (first | (with_reducible exact Below.refl _ _) | (with_reducible assumption) | (with_reducible exact (‹_ ∧ _ ∧ Below _ _ _›).2.2) | (with_reducible refine below_drewN ?_ _) | (with_reducible refine Below.drew ?_) | ((with_reducible refine Below.alloc ?_ ?hsd _); (case hsd => (first | exact Nat.le_refl _ | (simp; done) | omega | (simp; omega) | exact (‹_ ∧ _ ∧ Below _ _ _›).2.2.size))) | ((with_reducible refine Below.setCell ?_ ?hsd _); (case hsd => (first | exact Nat.le_refl _ | (simp; done) | omega | (simp; omega) | exact (‹_ ∧ _ ∧ Below _ _ _›).2.2.size))) | ((with_reducible refine Below.trans ?_ (Below.mono (by with_reducible assumption) ?hsd)); (case hsd => (first | exact Nat.le_refl _ | (simp; done) | omega | (simp; omega) | exact (‹_ ∧ _ ∧ Below _ _ _›).2.2.size))) | exact Below.refl _ _ | assumption | exact (‹_ ∧ _ ∧ Below _ _ _›).2.2 | refine below_drewN ?_ _ | refine Below.drew ?_ | refine Below.alloc ?_ (by first | exact Nat.le_refl _ | (simp; done) | omega | (simp; omega) | exact (‹_ ∧ _ ∧ Below _ _ _›).2.2.size) _ | refine Below.setCell ?_ (by first | exact Nat.le_refl _ | (simp; done) | omega | (simp; omega) | exact (‹_ ∧ _ ∧ Below _ _ _›).2.2.size) _ | refine Below.trans ?_ (Below.mono (by assumption) (by first | exact Nat.le_refl _ | (simp; done) | omega | (simp; omega) | exact (‹_ ∧ _ ∧ Below _ _ _›).2.2.size))))
  have hsw_w24 := hbw_w24.size
  clear hk_aC_w23 hk_w0_w23 hk_x0_w23 hk_g0_w23 hk_h0_w23 ho_w0_w23 ho_g0_w23 ho_h0_w23 hbw_w23 hsw_w23 hb_w24
  obtain ⟨hx0_aC, hx1_aC, hx2_aC, hxl_aC⟩ := blk3 hk_aC_w24
  obtain ⟨hx0_w0, hx1_w0, hx2_w0, hxl_w0⟩ := blk3 hk_w0_w24
  obtain ⟨hx0_x0, hx1_x0, hx2_x0, hxl_x0⟩ := blk3 hk_x0_w24
  obtain ⟨hx0_g0, hx1_g0, hx2_g0, hxl_g0⟩ := blk3 hk_g0_w24
  obtain ⟨hx0_h0, hx1_h0, hx2_h0, hxl_h0⟩ := blk3 hk_h0_w24
  go_wp2_with fail
  refine (l_heldCard _ _ w24.heap.size _ _ _ 1 _ (Reads.of_own ho_g0_w24) (Nat.le_refl _) (by omega) (by omega) (by omega)).mono ?_
  rintro e w25 ⟨rfl, hb_w25⟩
  clear hx0_aC hx1_aC hx2_aC hxl_aC hx0_w0 hx1_w0 hx2_w0 hxl_w0 hx0_x0 hx1_x0 hx2_x0 hxl_x0 hx0_g0 hx1_g0 hx2_g0 hxl_g0 hx0_h0 hx1_h0 hx2_h0 hxl_h0
  have hk_aC_w25 := blk_next hk_aC_w24 hb_w25
  have hk_w0_w25 := blk_next hk_w0_w24 hb_w25
  have hk_x0_w25 := blk_next hk_x0_w24 hb_w25
  have hk_g0_w25 := blk_next hk_g0_w24 hb_w25
  have hk_h0_w25 := blk_next hk_h0_w24 hb_w25
  have ho_w0_w25 := own_below ho_w0_w24 hb_w25
  have ho_g0_w25 := own_below ho_g0_w24 hb_w25
  have ho_h0_w25 := own_below ho_h0_w24 hb_w25
  have hbw_w25 : Below w.heap.size w w25 := (by repeat (first | (with_reducible exact Below.refl _ _) | (with_reducible assumption) | (with_reducible exact (‹_ ∧ _ ∧ Below _ _ _›).2.2) | (with_reducible refine below_drewN ?_ _) | (with_reducible refine Below.drew ?_) | ((with_reducible refine Below.alloc ?_ ?hsd _); (case hsd => (first | exact Nat.le_refl _ | (simp; done) | omega | (simp; omega) | exact (‹_ ∧ _ ∧ Below _ _ _›).2.2.size))) | ((with_reducible refine Below.setCell ?_ ?hsd _); (case hsd => (first | exact Nat.le_refl _ | (simp; done) | omega | (simp; omega) | exact (‹_ ∧ _ ∧ Below _ _ _›).2.2.size))) | ((with_reducible refine Below.trans ?_ (Below.mono (by with_reducible assumption) ?hsd)); (case hsd => (first | exact Nat.le_refl _ | (simp; done) | omega | (simp; omega) | exact (‹_ ∧ _ ∧ Below _ _ _›).2.2.size))) | exact Below.refl _ _ | assumption | exact (‹_ ∧ _ ∧ Below _ _ _›).2.2 | refine below_drewN ?_ _ | refine Below.drew ?_ | refine Below.alloc ?_ (by first | exact Nat.le_refl _ | (simp; done) | omega | (simp; omega) | exact (‹_ ∧ _ ∧ Below _ _ _›).2.2.size) _ | refine Below.setCell ?_ (by first | exact Nat.le_refl _ | (simp; done) | omega | (simp; omega) | exact (‹_ ∧ _ ∧ Below _ _ _›).2.2.size) _ | refine Below.trans ?_ (Below.mono (by assumption) (by first | exact Nat.le_refl _ | (simp; done) | omega | (simp; omega) | exact (‹_ ∧ _ ∧ Below _ _ _›).2.2.size))))
  have hsw_w25 := hbw_w25.size
  clear hk_aC_w24 hk_w0_w24 hk_x0_w24 hk_g0_w24 hk_h0_w24 ho_w0_w24 ho_g0_w24 ho_h0_w24 hbw_w24 hsw_w24 hb_w25
  obtain ⟨hx0_aC, hx1_aC, hx2_aC, hxl_aC⟩ := blk3 hk_aC_w25
  obtain ⟨hx0_w0, hx1_w0, hx2_w0, hxl_w0⟩ := blk3 hk_w0_w25
  obtain ⟨hx0_x0, hx1_x0, hx2_x0, hxl_x0⟩ := blk3 hk_x0_w25
  obtain ⟨hx0_g0, hx1_g0, hx2_g0, hxl_g0⟩ := blk3 hk_g0_w25
  obtain ⟨hx0_h0, hx1_h0, hx2_h0, hxl_h0⟩ := blk3 hk_h0_w25
  go_wp2
  go_ret
  exact ⟨rfl, hbw_w25⟩

end Go.Proofs.Ytdkelaiadgechaa.fnExactAddBoxes
