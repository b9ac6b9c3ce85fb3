/- FnExactCutStrip: the program's CutStrip returns what the reference's returns, for all arguments; no condition. -/
import Derived.Test.YtfbkapafhaaaoaaCard7
import Derived.Test.YtfbkapafhaaaoaaLift
import Derived.Deep.Slices
import Derived.SliceStrings
import Derived.Lib.SmallJoins
namespace Go.Proofs.Ytfbkapafhaaaoaa.fnExactCutStrip
open Go.ChangeShapes Go.WideShapes Go.ChangeAt Go.RowKit Go.Joins Go.WideMaps Go.WideElems
open Go.ChangeMaps (open_string shut_string)
set_option linter.unusedVariables false

set_option maxRecDepth 100000 in
set_option maxHeartbeats 4000000 in
theorem walkCutStrip (d f : Int) (A : Option Addr) (n c : Nat) (ss : List ByteArray) (k : Int) (w : World) (hS : Strs w w.heap.size A n ss) (hn : n ≤ 1048576) (hz0 : 0 ≤ szStrs ss 1048576) :
    Calls Try.prog 7 #[.agg #[.int .i64 d, .int .i64 f, .slice A n c], .int .i64 k] w fun e w' => e = .returned (.bool true) ∧ Below w.heap.size w w' := by
  have hl := hS.len
  obtain ⟨hrl, hrs⟩ : ((cutAt d f ss k).1).length ≤ 1048576 ∧ ∀ x ∈ ((cutAt d f ss k).1), x.size ≤ 16777216 := by
    have hl2 := hl
    unfold cutAt
    split
    · refine ⟨by show (ss.take _ ++ ss.drop _).length ≤ _; rw [List.length_append, List.length_take, List.length_drop]; omega, fun x hx => ?_⟩
      rcases List.mem_append.1 hx with h | h
      · exact hS.sb x (List.mem_of_mem_take h)
      · exact hS.sb x (List.mem_of_mem_drop h)
    · exact ⟨by show ss.length ≤ _; omega, hS.sb⟩
  have hspec := fun (W : World) (A0 : Option Addr) (c0 : Nat) (h : Strs W W.heap.size A0 ss.length ss) (hc0 : ss.length ≤ c0 ∧ c0 ≤ 9223372036854775807) => s_CutStrip d f W.heap.size A0 ss.length c0 ss k W h (Nat.le_refl _) hc0.1 hc0.2
  have himpl := fun (W : World) (A0 : Option Addr) (c0 : Nat) (h : Strs W W.heap.size A0 ss.length ss) => i_CutStrip d f W.heap.size A0 ss.length c0 ss k W h (Nat.le_refl _)
  have HL := Lib.hid hl
  clear hl
  generalize hs2 : ((cutAt d f ss k).1) = ss2 at hspec himpl hrl hrs
  generalize hb2 : ((cutAt d f ss k).2) = rb at hspec himpl
  clear hs2 hb2
  have HSPEC := hide hspec
  have HIMPL := hide himpl
  have HRS := hide hrs
  clear hspec himpl hrs
  go_enter Try.func7, Try.ntmps7
  go_wp2_with fail
  refine (l_szCard d f w.heap.size A n c ss 1048576 _ (by simp) (hS.rd.alloc (Nat.le_refl _) _) (by omega) (fun s hs => by have := hS.sb s hs; omega) (by omega) (by omega)).mono ?_
  rintro e w1 ⟨rfl, hb1⟩
  have hk_box_w1 := blk_next (blk_new w (.cells #[.int .i64 d, .int .i64 f, .slice A n c] 32)) hb1
  have hbw_w1 : Below w.heap.size w w1 := (by repeat (first | exact Below.refl _ _ | assumption | exact (‹_ ∧ _ ∧ Below _ _ _›).2.2 | refine below_drewN ?_ _ | refine Below.drew ?_ | refine Below.alloc ?_ (by first | exact Nat.le_refl _ | (simp; done) | omega | (simp; omega) | exact (‹_ ∧ _ ∧ Below _ _ _›).2.2.size) _ | refine Below.setCell ?_ (by first | exact Nat.le_refl _ | (simp; done) | omega | (simp; omega) | exact (‹_ ∧ _ ∧ Below _ _ _›).2.2.size) _ | refine Below.trans ?_ (Below.mono (by assumption) (by first | exact Nat.le_refl _ | (simp; done) | omega | (simp; omega) | exact (‹_ ∧ _ ∧ Below _ _ _›).2.2.size))))
  have hsw_w1 := hbw_w1.size
  clear hb1
  obtain ⟨hx0_box, hx1_box, hx2_box, hxl_box⟩ := blk3 hk_box_w1
  go_wp2_with fail
  refine (l_toCard d f w.heap.size A n c ss _ (hS.below hbw_w1) hsw_w1).mono ?_
  rintro e w2 ⟨A2, c2, rfl, ho2, hb2⟩
  clear hx0_box hx1_box hx2_box hxl_box
  have hk_box_w2 := blk_next hk_box_w1 hb2
  have hbw_w2 : Below w.heap.size w w2 := (by repeat (first | exact Below.refl _ _ | assumption | exact (‹_ ∧ _ ∧ Below _ _ _›).2.2 | refine below_drewN ?_ _ | refine Below.drew ?_ | refine Below.alloc ?_ (by first | exact Nat.le_refl _ | (simp; done) | omega | (simp; omega) | exact (‹_ ∧ _ ∧ Below _ _ _›).2.2.size) _ | refine Below.setCell ?_ (by first | exact Nat.le_refl _ | (simp; done) | omega | (simp; omega) | exact (‹_ ∧ _ ∧ Below _ _ _›).2.2.size) _ | refine Below.trans ?_ (Below.mono (by assumption) (by first | exact Nat.le_refl _ | (simp; done) | omega | (simp; omega) | exact (‹_ ∧ _ ∧ Below _ _ _›).2.2.size))))
  have hsw_w2 := hbw_w2.size
  clear hk_box_w1 hbw_w1 hb2
  go_wp2_with fail
  refine (unhide HSPEC _ A2 c2 (strs_of_own ho2 (by have := HL.out; omega) hS.sb) (own_cap ho2)).mono ?_
  rintro e w3 ⟨A3, c3, rfl, ho3, hb3⟩
  clear ho2
  have hk_box_w3 := blk_next hk_box_w2 hb3
  have hbw_w3 : Below w.heap.size w w3 := (by repeat (first | exact Below.refl _ _ | assumption | exact (‹_ ∧ _ ∧ Below _ _ _›).2.2 | refine below_drewN ?_ _ | refine Below.drew ?_ | refine Below.alloc ?_ (by first | exact Nat.le_refl _ | (simp; done) | omega | (simp; omega) | exact (‹_ ∧ _ ∧ Below _ _ _›).2.2.size) _ | refine Below.setCell ?_ (by first | exact Nat.le_refl _ | (simp; done) | omega | (simp; omega) | exact (‹_ ∧ _ ∧ Below _ _ _›).2.2.size) _ | refine Below.trans ?_ (Below.mono (by assumption) (by first | exact Nat.le_refl _ | (simp; done) | omega | (simp; omega) | exact (‹_ ∧ _ ∧ Below _ _ _›).2.2.size))))
  have hsw_w3 := hbw_w3.size
  clear hk_box_w2 hbw_w2 hb3
  obtain ⟨hx0_box, hx1_box, hx2_box, hxl_box⟩ := blk3 hk_box_w3
  have hlt_w0_x := hide (ltb ho3)
  go_wp2_with fail
  refine (l_toCard d f w.heap.size A n c ss _ ((hS.below hbw_w3).alloc hsw_w3 _) (by simp; omega)).mono ?_
  rintro e w4 ⟨A4, c4, rfl, ho4, hb4⟩
  clear hx0_box hx1_box hx2_box hxl_box
  have hk_box_w4 := blk_next (blk_alloc hk_box_w3 _) hb4
  have hk_w0_w4 := blk_next (blk_new w3 (.cells #[.int .i64 d, .int .i64 f, .slice A3 ss2.length c3] 34)) hb4
  have ho_w0_w4 := own_below (ho3.alloc _) hb4
  have hbw_w4 : Below w.heap.size w w4 := (by repeat (first | exact Below.refl _ _ | assumption | exact (‹_ ∧ _ ∧ Below _ _ _›).2.2 | refine below_drewN ?_ _ | refine Below.drew ?_ | refine Below.alloc ?_ (by first | exact Nat.le_refl _ | (simp; done) | omega | (simp; omega) | exact (‹_ ∧ _ ∧ Below _ _ _›).2.2.size) _ | refine Below.setCell ?_ (by first | exact Nat.le_refl _ | (simp; done) | omega | (simp; omega) | exact (‹_ ∧ _ ∧ Below _ _ _›).2.2.size) _ | refine Below.trans ?_ (Below.mono (by assumption) (by first | exact Nat.le_refl _ | (simp; done) | omega | (simp; omega) | exact (‹_ ∧ _ ∧ Below _ _ _›).2.2.size))))
  have hsw_w4 := hbw_w4.size
  clear hk_box_w3 ho3 hbw_w3 hb4
  obtain ⟨hx0_box, hx1_box, hx2_box, hxl_box⟩ := blk3 hk_box_w4
  obtain ⟨hx0_w0, hx1_w0, hx2_w0, hxl_w0⟩ := blk3 hk_w0_w4
  go_wp2_with fail
  have hlt_x0_g := hide (ltb (ho4.alloc (.cells #[.int .i64 d, .int .i64 f, .slice A4 ss.length c4] 34)))
  have hlt_w0_g := hide (ltb (ho_w0_w4.alloc (.cells #[.int .i64 d, .int .i64 f, .slice A4 ss.length c4] 34)))
  refine (unhide HIMPL _ A4 c4 (strs_of_own (ho4.alloc _) (by have := HL.out; omega) hS.sb)).mono ?_
  rintro e w5 ⟨A5, c5, rfl, ho5, hb5⟩
  clear hx0_box hx1_box hx2_box hxl_box hx0_w0 hx1_w0 hx2_w0 hxl_w0
  have hk_box_w5 := blk_next (blk_alloc hk_box_w4 _) hb5
  have hk_w0_w5 := blk_next (blk_alloc hk_w0_w4 _) hb5
  have hk_x0_w5 := blk_next (blk_new w4 (.cells #[.int .i64 d, .int .i64 f, .slice A4 ss.length c4] 34)) hb5
  have ho_w0_w5 := own_below (ho_w0_w4.alloc _) hb5
  have ho_x0_w5 := own_below (ho4.alloc _) hb5
  have hbw_w5 : Below w.heap.size w w5 := (by repeat (first | exact Below.refl _ _ | assumption | exact (‹_ ∧ _ ∧ Below _ _ _›).2.2 | refine below_drewN ?_ _ | refine Below.drew ?_ | refine Below.alloc ?_ (by first | exact Nat.le_refl _ | (simp; done) | omega | (simp; omega) | exact (‹_ ∧ _ ∧ Below _ _ _›).2.2.size) _ | refine Below.setCell ?_ (by first | exact Nat.le_refl _ | (simp; done) | omega | (simp; omega) | exact (‹_ ∧ _ ∧ Below _ _ _›).2.2.size) _ | refine Below.trans ?_ (Below.mono (by assumption) (by first | exact Nat.le_refl _ | (simp; done) | omega | (simp; omega) | exact (‹_ ∧ _ ∧ Below _ _ _›).2.2.size))))
  have hsw_w5 := hbw_w5.size
  clear hk_box_w4 hk_w0_w4 ho_w0_w4 ho4 hbw_w4 hb5
  obtain ⟨hx0_box, hx1_box, hx2_box, hxl_box⟩ := blk3 hk_box_w5
  obtain ⟨hx0_w0, hx1_w0, hx2_w0, hxl_w0⟩ := blk3 hk_w0_w5
  obtain ⟨hx0_x0, hx1_x0, hx2_x0, hxl_x0⟩ := blk3 hk_x0_w5
  go_wp2_with fail
  refine (l_eqCard_same d f _ _ _ _ _ _ ss2 _ _ _ (ho5.alloc _) (ho_w0_w5.alloc _) (by omega) (unhide HRS)).mono ?_
  rintro e w6 ⟨rfl, hb6⟩
  clear hx0_box hx1_box hx2_box hxl_box hx0_w0 hx1_w0 hx2_w0 hxl_w0 hx0_x0 hx1_x0 hx2_x0 hxl_x0
  have hk_box_w6 := blk_next (blk_alloc hk_box_w5 _) hb6
  have hk_w0_w6 := blk_next (blk_alloc hk_w0_w5 _) hb6
  have hk_x0_w6 := blk_next (blk_alloc hk_x0_w5 _) hb6
  have hk_g0_w6 := blk_next (blk_new w5 (.cells #[.int .i64 d, .int .i64 f, .slice A5 ss2.length c5] 34)) hb6
  have ho_w0_w6 := own_below (ho_w0_w5.alloc _) hb6
  have ho_x0_w6 := own_below (ho_x0_w5.alloc _) hb6
  have ho_g0_w6 := own_below (ho5.alloc _) hb6
  have hbw_w6 : Below w.heap.size w w6 := (by repeat (first | exact Below.refl _ _ | assumption | exact (‹_ ∧ _ ∧ Below _ _ _›).2.2 | refine below_drewN ?_ _ | refine Below.drew ?_ | refine Below.alloc ?_ (by first | exact Nat.le_refl _ | (simp; done) | omega | (simp; omega) | exact (‹_ ∧ _ ∧ Below _ _ _›).2.2.size) _ | refine Below.setCell ?_ (by first | exact Nat.le_refl _ | (simp; done) | omega | (simp; omega) | exact (‹_ ∧ _ ∧ Below _ _ _›).2.2.size) _ | refine Below.trans ?_ (Below.mono (by assumption) (by first | exact Nat.le_refl _ | (simp; done) | omega | (simp; omega) | exact (‹_ ∧ _ ∧ Below _ _ _›).2.2.size))))
  have hsw_w6 := hbw_w6.size
  clear hk_box_w5 hk_w0_w5 hk_x0_w5 ho_w0_w5 ho_x0_w5 ho5 hbw_w5 hb6
  obtain ⟨hx0_box, hx1_box, hx2_box, hxl_box⟩ := blk3 hk_box_w6
  obtain ⟨hx0_w0, hx1_w0, hx2_w0, hxl_w0⟩ := blk3 hk_w0_w6
  obtain ⟨hx0_x0, hx1_x0, hx2_x0, hxl_x0⟩ := blk3 hk_x0_w6
  obtain ⟨hx0_g0, hx1_g0, hx2_g0, hxl_g0⟩ := blk3 hk_g0_w6
  go_wp2_with fail
  have hS6 := hS.below hbw_w6
  have hX6 := strs_of_own ho_x0_w6 (by have := HL.out; omega) hS.sb
  go_region_held3 (fun W => (∀ b o, b < w6.heap.size → W.cell? ⟨b, o, none⟩ = (w6).cell? ⟨b, o, none⟩) ∧ (∀ b o, b < w6.heap.size → W.frozen? ⟨b, o, none⟩ = (w6).frozen? ⟨b, o, none⟩) ∧ Below (w6.heap.size) (w6) W) (exact keep_of (by repeat (first | exact Below.refl _ _ | assumption | exact (‹_ ∧ _ ∧ Below _ _ _›).2.2 | refine below_drewN ?_ _ | refine Below.drew ?_ | refine Below.alloc ?_ (by first | exact Nat.le_refl _ | (simp; done) | omega | (simp; omega) | exact (‹_ ∧ _ ∧ Below _ _ _›).2.2.size) _ | refine Below.setCell ?_ (by first | exact Nat.le_refl _ | (simp; done) | omega | (simp; omega) | exact (‹_ ∧ _ ∧ Below _ _ _›).2.2.size) _ | refine Below.trans ?_ (Below.mono (by assumption) (by first | exact Nat.le_refl _ | (simp; done) | omega | (simp; omega) | exact (‹_ ∧ _ ∧ Below _ _ _›).2.2.size))))) (first | (go_at_call 15; have hq := (‹_ ∧ _ ∧ Below _ _ _›).2.2; refine (l_toCard d f w.heap.size A n c ss _ ?_ ?_).mono ?_; exact hS6.below (hq.mono hsw_w6); exact Nat.le_trans hsw_w6 hq.size; rintro e w7 ⟨A7, c7, rfl, ho7, hb7⟩) | (go_at_call 17; have hq2 := (‹_ ∧ _ ∧ Below _ _ _›).2.2; refine (l_eqCard_args d f w7.heap.size _ _ _ _ _ _ ss _ ?_ ?_ ?_).mono ?_; exact (hX6.below hq2).more hq2.size; exact strs_of_own ho7 (by have := HL.out; omega) hS.sb; exact Nat.le_refl _; rintro e w8 ⟨rfl, hb8⟩))
  have hz7 : w6.heap.size ≤ w7.heap.size := hb7.size
  have hb67 : Below w6.heap.size w6 w7 := (Below.refl _ _).drew.trans hb7
  have hb68 : Below w6.heap.size w6 w8 := hb67.trans (hb8.mono hz7)
  clear hS6 hX6 ho7 hb7 hb8 hb67 hz7
  clear hx0_box hx1_box hx2_box hxl_box hx0_w0 hx1_w0 hx2_w0 hxl_w0 hx0_x0 hx1_x0 hx2_x0 hxl_x0 hx0_g0 hx1_g0 hx2_g0 hxl_g0
  have hk_box_w8 := blk_next hk_box_w6 hb68
  have hk_w0_w8 := blk_next hk_w0_w6 hb68
  have hk_x0_w8 := blk_next hk_x0_w6 hb68
  have hk_g0_w8 := blk_next hk_g0_w6 hb68
  have ho_w0_w8 := own_below ho_w0_w6 hb68
  have ho_x0_w8 := own_below ho_x0_w6 hb68
  have ho_g0_w8 := own_below ho_g0_w6 hb68
  have hbw_w8 : Below w.heap.size w w8 := (by repeat (first | exact Below.refl _ _ | assumption | exact (‹_ ∧ _ ∧ Below _ _ _›).2.2 | refine below_drewN ?_ _ | refine Below.drew ?_ | refine Below.alloc ?_ (by first | exact Nat.le_refl _ | (simp; done) | omega | (simp; omega) | exact (‹_ ∧ _ ∧ Below _ _ _›).2.2.size) _ | refine Below.setCell ?_ (by first | exact Nat.le_refl _ | (simp; done) | omega | (simp; omega) | exact (‹_ ∧ _ ∧ Below _ _ _›).2.2.size) _ | refine Below.trans ?_ (Below.mono (by assumption) (by first | exact Nat.le_refl _ | (simp; done) | omega | (simp; omega) | exact (‹_ ∧ _ ∧ Below _ _ _›).2.2.size))))
  have hsw_w8 := hbw_w8.size
  clear hk_box_w6 hk_w0_w6 hk_x0_w6 hk_g0_w6 ho_w0_w6 ho_x0_w6 ho_g0_w6 hbw_w6 hb68
  obtain ⟨hx0_x0, hx1_x0, hx2_x0, hxl_x0⟩ := blk3 hk_x0_w8
  obtain ⟨hx0_w0, hx1_w0, hx2_w0, hxl_w0⟩ := blk3 hk_w0_w8
  obtain ⟨hx0_g0, hx1_g0, hx2_g0, hxl_g0⟩ := blk3 hk_g0_w8
  obtain ⟨hx0_box, hx1_box, hx2_box, hxl_box⟩ := blk3 hk_box_w8
  go_wp2_with fail
  refine (l_markCard _ _ _ _ _ _ _ 1 _ ho_x0_w8 (by omega) (by omega) (by have := HL.out; omega)).mono ?_
  rintro e w9 ⟨rfl, hm9, hg_w9⟩
  have hbm9 := below_marked (B := w.heap.size) ho_x0_w8 hg_w9 (by simp; omega) (by omega)
  clear hx0_x0 hx1_x0 hx2_x0 hxl_x0 hx0_w0 hx1_w0 hx2_w0 hxl_w0 hx0_g0 hx1_g0 hx2_g0 hxl_g0 hx0_box hx1_box hx2_box hxl_box
  have hk_box_w9 := blk_marked hk_box_w8 hg_w9 ho_x0_w8 (by decide)
  have hk_w0_w9 := blk_marked hk_w0_w8 hg_w9 ho_x0_w8 (by decide)
  have hk_x0_w9 := blk_marked hk_x0_w8 hg_w9 ho_x0_w8 (by decide)
  have hk_g0_w9 := blk_marked hk_g0_w8 hg_w9 ho_x0_w8 (by decide)
  have ho_w0_w9 := own_elder ho_w0_w8 (fun k hk => (by have := unhide hlt_w0_x k hk; simp at this ⊢; omega)) (geb ho_x0_w8) hg_w9
  have ho_g0_w9 := own_newer ho_g0_w8 (unhide hlt_x0_g) hg_w9
  have hbw_w9 : Below w.heap.size w w9 := (by repeat (first | exact Below.refl _ _ | assumption | exact (‹_ ∧ _ ∧ Below _ _ _›).2.2 | refine below_drewN ?_ _ | refine Below.drew ?_ | refine Below.alloc ?_ (by first | exact Nat.le_refl _ | (simp; done) | omega | (simp; omega) | exact (‹_ ∧ _ ∧ Below _ _ _›).2.2.size) _ | refine Below.setCell ?_ (by first | exact Nat.le_refl _ | (simp; done) | omega | (simp; omega) | exact (‹_ ∧ _ ∧ Below _ _ _›).2.2.size) _ | refine Below.trans ?_ (Below.mono (by assumption) (by first | exact Nat.le_refl _ | (simp; done) | omega | (simp; omega) | exact (‹_ ∧ _ ∧ Below _ _ _›).2.2.size))))
  have hsw_w9 := hbw_w9.size
  clear hk_box_w8 hk_w0_w8 hk_x0_w8 hk_g0_w8 ho_w0_w8 ho_x0_w8 ho_g0_w8 hbw_w8 hbm9
  obtain ⟨hx0_g0, hx1_g0, hx2_g0, hxl_g0⟩ := blk3 hk_g0_w9
  obtain ⟨hx0_w0, hx1_w0, hx2_w0, hxl_w0⟩ := blk3 hk_w0_w9
  obtain ⟨hx0_box, hx1_box, hx2_box, hxl_box⟩ := blk3 hk_box_w9
  go_wp2_with fail
  refine (l_eqCard_same d f _ _ _ _ _ _ ss2 _ _ _ ho_g0_w9 ho_w0_w9 (by omega) (unhide HRS)).mono ?_
  rintro e w10 ⟨rfl, hb10⟩
  clear hx0_g0 hx1_g0 hx2_g0 hxl_g0 hx0_w0 hx1_w0 hx2_w0 hxl_w0 hx0_box hx1_box hx2_box hxl_box
  have hk_box_w10 := blk_next hk_box_w9 hb10
  have hk_w0_w10 := blk_next hk_w0_w9 hb10
  have hk_x0_w10 := blk_next hk_x0_w9 hb10
  have hk_g0_w10 := blk_next hk_g0_w9 hb10
  have ho_w0_w10 := own_below ho_w0_w9 hb10
  have ho_g0_w10 := own_below ho_g0_w9 hb10
  have ho_x0_w10 := own_below hm9 hb10
  have hbw_w10 : Below w.heap.size w w10 := (by repeat (first | exact Below.refl _ _ | assumption | exact (‹_ ∧ _ ∧ Below _ _ _›).2.2 | refine below_drewN ?_ _ | refine Below.drew ?_ | refine Below.alloc ?_ (by first | exact Nat.le_refl _ | (simp; done) | omega | (simp; omega) | exact (‹_ ∧ _ ∧ Below _ _ _›).2.2.size) _ | refine Below.setCell ?_ (by first | exact Nat.le_refl _ | (simp; done) | omega | (simp; omega) | exact (‹_ ∧ _ ∧ Below _ _ _›).2.2.size) _ | refine Below.trans ?_ (Below.mono (by assumption) (by first | exact Nat.le_refl _ | (simp; done) | omega | (simp; omega) | exact (‹_ ∧ _ ∧ Below _ _ _›).2.2.size))))
  have hsw_w10 := hbw_w10.size
  clear hk_box_w9 hk_w0_w9 hk_x0_w9 hk_g0_w9 ho_w0_w9 ho_g0_w9 hm9 hbw_w9 hb10
  obtain ⟨hx0_g0, hx1_g0, hx2_g0, hxl_g0⟩ := blk3 hk_g0_w10
  obtain ⟨hx0_w0, hx1_w0, hx2_w0, hxl_w0⟩ := blk3 hk_w0_w10
  obtain ⟨hx0_box, hx1_box, hx2_box, hxl_box⟩ := blk3 hk_box_w10
  clear ho_x0_w10
  go_wp2_with fail
  refine (l_markCard _ _ _ _ _ _ _ 1 _ ho_g0_w10 (by omega) (by omega) (by omega)).mono ?_
  rintro e w11 ⟨rfl, hm11, hg_w11⟩
  have hbm11 := below_marked (B := w.heap.size) ho_g0_w10 hg_w11 (by simp; omega) (by omega)
  clear hx0_g0 hx1_g0 hx2_g0 hxl_g0 hx0_w0 hx1_w0 hx2_w0 hxl_w0 hx0_box hx1_box hx2_box hxl_box
  have hk_box_w11 := blk_marked hk_box_w10 hg_w11 ho_g0_w10 (by decide)
  have hk_w0_w11 := blk_marked hk_w0_w10 hg_w11 ho_g0_w10 (by decide)
  have hk_x0_w11 := blk_marked hk_x0_w10 hg_w11 ho_g0_w10 (by decide)
  have hk_g0_w11 := blk_marked hk_g0_w10 hg_w11 ho_g0_w10 (by decide)
  have ho_w0_w11 := own_elder ho_w0_w10 (fun k hk => (by have := unhide hlt_w0_g k hk; simp at this ⊢; omega)) (geb ho_g0_w10) hg_w11
  have hbw_w11 : Below w.heap.size w w11 := (by repeat (first | exact Below.refl _ _ | assumption | exact (‹_ ∧ _ ∧ Below _ _ _›).2.2 | refine below_drewN ?_ _ | refine Below.drew ?_ | refine Below.alloc ?_ (by first | exact Nat.le_refl _ | (simp; done) | omega | (simp; omega) | exact (‹_ ∧ _ ∧ Below _ _ _›).2.2.size) _ | refine Below.setCell ?_ (by first | exact Nat.le_refl _ | (simp; done) | omega | (simp; omega) | exact (‹_ ∧ _ ∧ Below _ _ _›).2.2.size) _ | refine Below.trans ?_ (Below.mono (by assumption) (by first | exact Nat.le_refl _ | (simp; done) | omega | (simp; omega) | exact (‹_ ∧ _ ∧ Below _ _ _›).2.2.size))))
  have hsw_w11 := hbw_w11.size
  clear hk_box_w10 hk_w0_w10 hk_x0_w10 hk_g0_w10 ho_w0_w10 ho_g0_w10 hbw_w10 hbm11
  obtain ⟨hx0_g0, hx1_g0, hx2_g0, hxl_g0⟩ := blk3 hk_g0_w11
  obtain ⟨hx0_w0, hx1_w0, hx2_w0, hxl_w0⟩ := blk3 hk_w0_w11
  obtain ⟨hx0_box, hx1_box, hx2_box, hxl_box⟩ := blk3 hk_box_w11
  go_wp2_with fail
  refine (l_heldCard _ _ w11.heap.size _ _ _ 1 _ (Reads.of_own hm11) (Nat.le_refl _) (by omega) (by omega) (by omega)).mono ?_
  rintro e w12 ⟨rfl, hb12⟩
  clear hx0_g0 hx1_g0 hx2_g0 hxl_g0 hx0_w0 hx1_w0 hx2_w0 hxl_w0 hx0_box hx1_box hx2_box hxl_box
  have hk_box_w12 := blk_next hk_box_w11 hb12
  have hk_w0_w12 := blk_next hk_w0_w11 hb12
  have hk_x0_w12 := blk_next hk_x0_w11 hb12
  have hk_g0_w12 := blk_next hk_g0_w11 hb12
  have ho_w0_w12 := own_below ho_w0_w11 hb12
  have ho_g0_w12 := own_below hm11 hb12
  have hbw_w12 : Below w.heap.size w w12 := (by repeat (first | exact Below.refl _ _ | assumption | exact (‹_ ∧ _ ∧ Below _ _ _›).2.2 | refine below_drewN ?_ _ | refine Below.drew ?_ | refine Below.alloc ?_ (by first | exact Nat.le_refl _ | (simp; done) | omega | (simp; omega) | exact (‹_ ∧ _ ∧ Below _ _ _›).2.2.size) _ | refine Below.setCell ?_ (by first | exact Nat.le_refl _ | (simp; done) | omega | (simp; omega) | exact (‹_ ∧ _ ∧ Below _ _ _›).2.2.size) _ | refine Below.trans ?_ (Below.mono (by assumption) (by first | exact Nat.le_refl _ | (simp; done) | omega | (simp; omega) | exact (‹_ ∧ _ ∧ Below _ _ _›).2.2.size))))
  have hsw_w12 := hbw_w12.size
  clear hk_box_w11 hk_w0_w11 hk_x0_w11 hk_g0_w11 ho_w0_w11 hm11 hbw_w11 hb12
  obtain ⟨hx0_g0, hx1_g0, hx2_g0, hxl_g0⟩ := blk3 hk_g0_w12
  obtain ⟨hx0_w0, hx1_w0, hx2_w0, hxl_w0⟩ := blk3 hk_w0_w12
  obtain ⟨hx0_box, hx1_box, hx2_box, hxl_box⟩ := blk3 hk_box_w12
  go_wp2_with fail
  refine (l_toCard d f w.heap.size A n c ss _ (hS.below hbw_w12) hsw_w12).mono ?_
  rintro e w13 ⟨A13, c13, rfl, ho13, hb13⟩
  clear hx0_g0 hx1_g0 hx2_g0 hxl_g0 hx0_w0 hx1_w0 hx2_w0 hxl_w0 hx0_box hx1_box hx2_box hxl_box
  have hk_box_w13 := blk_next hk_box_w12 hb13
  have hk_w0_w13 := blk_next hk_w0_w12 hb13
  have hk_x0_w13 := blk_next hk_x0_w12 hb13
  have hk_g0_w13 := blk_next hk_g0_w12 hb13
  have ho_w0_w13 := own_below ho_w0_w12 hb13
  have ho_g0_w13 := own_below ho_g0_w12 hb13
  have hbw_w13 : Below w.heap.size w w13 := (by repeat (first | exact Below.refl _ _ | assumption | exact (‹_ ∧ _ ∧ Below _ _ _›).2.2 | refine below_drewN ?_ _ | refine Below.drew ?_ | refine Below.alloc ?_ (by first | exact Nat.le_refl _ | (simp; done) | omega | (simp; omega) | exact (‹_ ∧ _ ∧ Below _ _ _›).2.2.size) _ | refine Below.setCell ?_ (by first | exact Nat.le_refl _ | (simp; done) | omega | (simp; omega) | exact (‹_ ∧ _ ∧ Below _ _ _›).2.2.size) _ | refine Below.trans ?_ (Below.mono (by assumption) (by first | exact Nat.le_refl _ | (simp; done) | omega | (simp; omega) | exact (‹_ ∧ _ ∧ Below _ _ _›).2.2.size))))
  have hsw_w13 := hbw_w13.size
  clear hk_box_w12 hk_w0_w12 hk_x0_w12 hk_g0_w12 ho_w0_w12 ho_g0_w12 hbw_w12 hb13
  go_wp2_with fail
  refine (unhide HIMPL _ A13 c13 (strs_of_own ho13 (by have := HL.out; omega) hS.sb)).mono ?_
  rintro e w14 ⟨A14, c14, rfl, ho14, hb14⟩
  clear ho13
  have hk_box_w14 := blk_next hk_box_w13 hb14
  have hk_w0_w14 := blk_next hk_w0_w13 hb14
  have hk_x0_w14 := blk_next hk_x0_w13 hb14
  have hk_g0_w14 := blk_next hk_g0_w13 hb14
  have ho_w0_w14 := own_below ho_w0_w13 hb14
  have ho_g0_w14 := own_below ho_g0_w13 hb14
  have hbw_w14 : Below w.heap.size w w14 := (by repeat (first | exact Below.refl _ _ | assumption | exact (‹_ ∧ _ ∧ Below _ _ _›).2.2 | refine below_drewN ?_ _ | refine Below.drew ?_ | refine Below.alloc ?_ (by first | exact Nat.le_refl _ | (simp; done) | omega | (simp; omega) | exact (‹_ ∧ _ ∧ Below _ _ _›).2.2.size) _ | refine Below.setCell ?_ (by first | exact Nat.le_refl _ | (simp; done) | omega | (simp; omega) | exact (‹_ ∧ _ ∧ Below _ _ _›).2.2.size) _ | refine Below.trans ?_ (Below.mono (by assumption) (by first | exact Nat.le_refl _ | (simp; done) | omega | (simp; omega) | exact (‹_ ∧ _ ∧ Below _ _ _›).2.2.size))))
  have hsw_w14 := hbw_w14.size
  clear hk_box_w13 hk_w0_w13 hk_x0_w13 hk_g0_w13 ho_w0_w13 ho_g0_w13 hbw_w13 hb14
  obtain ⟨hx0_g0, hx1_g0, hx2_g0, hxl_g0⟩ := blk3 hk_g0_w14
  obtain ⟨hx0_w0, hx1_w0, hx2_w0, hxl_w0⟩ := blk3 hk_w0_w14
  obtain ⟨hx0_box, hx1_box, hx2_box, hxl_box⟩ := blk3 hk_box_w14
  go_wp2_with fail
  refine (l_eqCard_same d f _ _ _ _ _ _ ss2 _ _ _ (ho14.alloc _) (ho_w0_w14.alloc _) (by omega) (unhide HRS)).mono ?_
  rintro e w15 ⟨rfl, hb15⟩
  clear hx0_g0 hx1_g0 hx2_g0 hxl_g0 hx0_w0 hx1_w0 hx2_w0 hxl_w0 hx0_box hx1_box hx2_box hxl_box
  have hk_box_w15 := blk_next (blk_alloc hk_box_w14 _) hb15
  have hk_w0_w15 := blk_next (blk_alloc hk_w0_w14 _) hb15
  have hk_x0_w15 := blk_next (blk_alloc hk_x0_w14 _) hb15
  have hk_g0_w15 := blk_next (blk_alloc hk_g0_w14 _) hb15
  have hk_h0_w15 := blk_next (blk_new w14 (.cells #[.int .i64 d, .int .i64 f, .slice A14 ss2.length c14] 34)) hb15
  have ho_w0_w15 := own_below (ho_w0_w14.alloc _) hb15
  have ho_g0_w15 := own_below (ho_g0_w14.alloc _) hb15
  have ho_h0_w15 := own_below (ho14.alloc _) hb15
  have hbw_w15 : Below w.heap.size w w15 := (by repeat (first | exact Below.refl _ _ | assumption | exact (‹_ ∧ _ ∧ Below _ _ _›).2.2 | refine below_drewN ?_ _ | refine Below.drew ?_ | refine Below.alloc ?_ (by first | exact Nat.le_refl _ | (simp; done) | omega | (simp; omega) | exact (‹_ ∧ _ ∧ Below _ _ _›).2.2.size) _ | refine Below.setCell ?_ (by first | exact Nat.le_refl _ | (simp; done) | omega | (simp; omega) | exact (‹_ ∧ _ ∧ Below _ _ _›).2.2.size) _ | refine Below.trans ?_ (Below.mono (by assumption) (by first | exact Nat.le_refl _ | (simp; done) | omega | (simp; omega) | exact (‹_ ∧ _ ∧ Below _ _ _›).2.2.size))))
  have hsw_w15 := hbw_w15.size
  clear hk_box_w14 hk_w0_w14 hk_x0_w14 hk_g0_w14 ho_w0_w14 ho_g0_w14 ho14 hbw_w14 hb15
  obtain ⟨hx0_g0, hx1_g0, hx2_g0, hxl_g0⟩ := blk3 hk_g0_w15
  obtain ⟨hx0_w0, hx1_w0, hx2_w0, hxl_w0⟩ := blk3 hk_w0_w15
  obtain ⟨hx0_box, hx1_box, hx2_box, hxl_box⟩ := blk3 hk_box_w15
  go_wp2_with fail
  refine (l_heldCard _ _ w15.heap.size _ _ _ 1 _ (Reads.of_own ho_g0_w15) (Nat.le_refl _) (by omega) (by omega) (by omega)).mono ?_
  rintro e w16 ⟨rfl, hb16⟩
  clear hx0_g0 hx1_g0 hx2_g0 hxl_g0 hx0_w0 hx1_w0 hx2_w0 hxl_w0 hx0_box hx1_box hx2_box hxl_box
  have hk_box_w16 := blk_next hk_box_w15 hb16
  have hk_w0_w16 := blk_next hk_w0_w15 hb16
  have hk_x0_w16 := blk_next hk_x0_w15 hb16
  have hk_g0_w16 := blk_next hk_g0_w15 hb16
  have hk_h0_w16 := blk_next hk_h0_w15 hb16
  have ho_w0_w16 := own_below ho_w0_w15 hb16
  have ho_g0_w16 := own_below ho_g0_w15 hb16
  have ho_h0_w16 := own_below ho_h0_w15 hb16
  have hbw_w16 : Below w.heap.size w w16 := (by repeat (first | exact Below.refl _ _ | assumption | exact (‹_ ∧ _ ∧ Below _ _ _›).2.2 | refine below_drewN ?_ _ | refine Below.drew ?_ | refine Below.alloc ?_ (by first | exact Nat.le_refl _ | (simp; done) | omega | (simp; omega) | exact (‹_ ∧ _ ∧ Below _ _ _›).2.2.size) _ | refine Below.setCell ?_ (by first | exact Nat.le_refl _ | (simp; done) | omega | (simp; omega) | exact (‹_ ∧ _ ∧ Below _ _ _›).2.2.size) _ | refine Below.trans ?_ (Below.mono (by assumption) (by first | exact Nat.le_refl _ | (simp; done) | omega | (simp; omega) | exact (‹_ ∧ _ ∧ Below _ _ _›).2.2.size))))
  have hsw_w16 := hbw_w16.size
  clear hk_box_w15 hk_w0_w15 hk_x0_w15 hk_g0_w15 hk_h0_w15 ho_w0_w15 ho_g0_w15 ho_h0_w15 hbw_w15 hb16
  go_wp2
  go_ret
  exact ⟨rfl, hbw_w16⟩

set_option maxHeartbeats 400000 in
theorem bigCutStrip (d f : Int) (A : Option Addr) (n c : Nat) (ss : List ByteArray) (k : Int) (w : World) (hR : Reads w w.heap.size 1 A n (ss.map Value.string)) (hn : n ≤ maxLen) (hs : ∀ s ∈ ss, s.size ≤ maxLen) (hz : szStrs ss 1048576 < 0) :
    Calls Try.prog 7 #[.agg #[.int .i64 d, .int .i64 f, .slice A n c], .int .i64 k] w fun e w' => e = .returned (.bool true) ∧ Below w.heap.size w w' := by
  unfold maxLen at hn hs
  go_enter Try.func7, Try.ntmps7
  go_wp2_with fail
  refine (l_szCard d f w.heap.size A n c ss 1048576 _ (by simp) (hR.alloc (Nat.le_refl _) _) (by omega) (fun s h => by have := hs s h; omega) (by omega) (by omega)).mono ?_
  rintro e w1 ⟨rfl, hb1⟩
  go_wp2
  go_ret
  exact ⟨rfl, (by repeat (first | exact Below.refl _ _ | assumption | exact (‹_ ∧ _ ∧ Below _ _ _›).2.2 | refine below_drewN ?_ _ | refine Below.drew ?_ | refine Below.alloc ?_ (by first | exact Nat.le_refl _ | (simp; done) | omega | (simp; omega) | exact (‹_ ∧ _ ∧ Below _ _ _›).2.2.size) _ | refine Below.setCell ?_ (by first | exact Nat.le_refl _ | (simp; done) | omega | (simp; omega) | exact (‹_ ∧ _ ∧ Below _ _ _›).2.2.size) _ | refine Below.trans ?_ (Below.mono (by assumption) (by first | exact Nat.le_refl _ | (simp; done) | omega | (simp; omega) | exact (‹_ ∧ _ ∧ Below _ _ _›).2.2.size))))⟩

set_option maxRecDepth 100000 in
theorem lifted (os : Os) (started : os.Started) (H : Type) (enc : TypeId × Value → H) :
    ReturnsInHanded {} Try.checked os 7 .any (Rows.fnExactCutStripSpec.pre6 enc Try.prog Try.f7 Rows.fnExactCutStripRow.domain false) (Rows.fnExactCutStripSpec.post enc Try.prog Try.f7 false true false false) := by
  refine returnsInHanded_of_change_shaped (C := Try.checked) own0 started (by kernel_rfl) Try.func7
    (ChangeSpec.witness6 (enc := enc) (C := Try.checked) false ⟨#[], #[.agg #[.int .i64 0, .int .i64 0, .slice none 0 0], .int .i64 0], []⟩ 8 (by kernel_rfl) (by kernel_rfl) (by kernel_rfl) (by kernel_rfl)) ?_
  intro W base args ds gs before hval0 hW hcnd _ hsh _
  have hval : ∀ (j : Nat) t v, Try.f7.params[j]? = some t → args[j]? = some v → Value.okWide Try.prog W .any base t v := hval0
  have hW' := hW
  obtain ⟨p, q, hA0, hV, _, hfz, hnd⟩ := hW
  have hA : DataW.TrodAll enc Try.prog W 0 (fun _ => true) true Try.f7.params.toList args.toList ds p := hA0
  rw [Try.params7] at hA hval
  obtain ⟨v0, vs0, d0, ds0, p0, q0, hargs, hds, _, h0, r0⟩ := trodAll_cons hA
  obtain ⟨v1, vs1, d1, ds1, p1, q1, rfl, rfl, _, h1, r1⟩ := trodAll_cons r0
  obtain ⟨rfl, rfl, _⟩ := trodAll_nil r1
  obtain rfl : args = #[v0, v1] := by cases args; simp_all
  have fin : Calls Try.prog 7 #[v0, v1] W fun e w' => e = .returned (.bool true) ∧ Below W.heap.size W w' := by
    obtain ⟨dn, fw, A, n, c, ss, rfl, hR, hm, hs, _, _⟩ := open_card (hval 0 32 v0 rfl rfl) h0
    obtain ⟨k, rfl, _, _, _⟩ := open_int Try.underlying3 (hval 1 3 v1 rfl rfl) h1
    by_cases hz : szStrs ss 1048576 < 0
    · exact bigCutStrip dn fw A n c ss k W hR hm hs hz
    · obtain ⟨hS, hn⟩ := strs_of_sz hR (by omega)
      exact walkCutStrip dn fw A n c ss k W hS hn (by omega)
  refine fin.mono fun e W' ⟨he, hb⟩ => ?_
  subst he
  exact ⟨_, rfl, post_law hW' rfl (by rw [Try.params7]; intro t ht; simp at ht; first | (rcases ht with rfl | rfl | rfl | rfl <;> exact ⟨by kernel_rfl, of_decide_eq_true (by kernel_rfl)⟩) | (rcases ht with rfl | rfl | rfl <;> exact ⟨by kernel_rfl, of_decide_eq_true (by kernel_rfl)⟩) | (rcases ht with rfl | rfl <;> exact ⟨by kernel_rfl, of_decide_eq_true (by kernel_rfl)⟩) | (subst ht; exact ⟨by kernel_rfl, of_decide_eq_true (by kernel_rfl)⟩)) rfl (by
    intro _; subst hds; rfl) hb⟩

theorem proved : Rows.FnExactCutStripSaid :=
  OpenClaim.holds_of_wide 7 Try.f7 rfl rfl rfl rfl rfl rfl rfl ⟨rfl, rfl, rfl, rfl, rfl⟩ rfl rfl rfl rfl rfl (by kernel_rfl) Try.func7 (by kernel_rfl)
    (of_decide_eq_true (by kernel_rfl)) (by unfold Func.isWrapper; first | (rw [if_pos (by decide +kernel)]; kernel_rfl) | (rw [if_neg (by decide +kernel)]; exact ⟨rfl, rfl⟩))
    (fun os started H enc _ => lifted os started H enc)
end Go.Proofs.Ytfbkapafhaaaoaa.fnExactCutStrip
