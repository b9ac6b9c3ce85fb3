/- The walk of FnExactSideDistance, for arguments that are not too large. -/
import Derived.Test.YtdkelaiadgechaaArea4
import Derived.Test.YtdkelaiadgechaaLift
import Derived.Test.YtdkelaiadgechaaLawKit2
import Derived.Deep.Slices
import Derived.SliceStrings
import Derived.Lib.SmallJoins
import Derived.Deep.DeepCutAuto
import Derived.Deep.RegionHeld3
namespace Go.Proofs.Ytdkelaiadgechaa.fnExactSideDistance
open Go.ChangeShapes Go.WideShapes Go.ChangeAt Go.RowKit Go.Joins Go.WideMaps Go.WideElems
open Go.ChangeMaps (open_string shut_string)
set_option linter.unusedVariables false

set_option maxRecDepth 100000 in
set_option maxHeartbeats 8000000 in
theorem walkSideDistance (d f : Int) (A : Option Addr) (n c : Nat) (ss : List ByteArray) (d2 f2 : Int) (A2 : Option Addr) (n2 c2 : Nat) (ss2 : List ByteArray) (w : World) (hS : Strs w w.heap.size A n ss) (hn : n ≤ 1048576) (hS2 : Strs w w.heap.size A2 n2 ss2) (hn2 : n2 ≤ 1048576) (hz1 : 0 ≤ szStrs ss 1048576) (hz2 : 0 ≤ szStrs ss2 (szStrs ss 1048576)) :
    Calls Try.prog 5 #[.agg #[.int .i64 d, .int .i64 f, .slice A n c], .agg #[.int .i64 d2, .int .i64 f2, .slice A2 n2 c2]] w fun e w' => e = .returned (.bool true) ∧ Below w.heap.size w w' := by
  have hl := hS.len
  have hl2 := hS2.len
  have hspec := fun (W : World) (A0 : Option Addr) (c0 : Nat) (h : Strs W W.heap.size A0 ss.length ss) (hc0 : ss.length ≤ c0 ∧ c0 ≤ 9223372036854775807) (A02 : Option Addr) (c02 : Nat) (h2 : Strs W W.heap.size A02 ss2.length ss2) (hc02 : ss2.length ≤ c02 ∧ c02 ≤ 9223372036854775807) => s_SideDistance d f d2 f2 W.heap.size A0 A02 ss.length c0 ss2.length c02 ss ss2 W h h2 (Nat.le_refl _)
  have himpl := fun (W : World) (A0 : Option Addr) (c0 : Nat) (h : Strs W W.heap.size A0 ss.length ss) (hc0 : ss.length ≤ c0 ∧ c0 ≤ 9223372036854775807) (A02 : Option Addr) (c02 : Nat) (h2 : Strs W W.heap.size A02 ss2.length ss2) (hc02 : ss2.length ≤ c02 ∧ c02 ≤ 9223372036854775807) => i_SideDistance d f d2 f2 W.heap.size A0 A02 ss.length c0 ss2.length c02 ss ss2 W h h2 (Nat.le_refl _)
  have HL := Lib.hid hl
  clear hl
  have HL2 := Lib.hid hl2
  clear hl2
  generalize hgen0 : (sideOf d f d2 f2 ss ss2) = rv at hspec himpl
  clear hgen0
  have HSPEC := hide hspec
  have HIMPL := hide himpl
  clear hspec himpl
  go_enter Try.func5, Try.ntmps5
  go_wp2_with fail
  have hk_aB_w1 := (blk_alloc (blk_new_at w (.cells #[.int .i64 d, .int .i64 f, .slice A n c] 24) (k := w.heap.size) (by simp)) (.cells #[.int .i64 d2, .int .i64 f2, .slice A2 n2 c2] 24))
  have hk_aC_w1 := (blk_new_at (w.alloc (.cells #[.int .i64 d, .int .i64 f, .slice A n c] 24)) (.cells #[.int .i64 d2, .int .i64 f2, .slice A2 n2 c2] 24) (k := w.heap.size + 1) (by simp))
  have hbw_w1 : Below w.heap.size w ((w.alloc (.cells #[.int .i64 d, .int .i64 f, .slice A n c] 24)).alloc (.cells #[.int .i64 d2, .int .i64 f2, .slice A2 n2 c2] 24)) := (by repeat (first | (with_reducible exact Below.refl _ _) | (with_reducible assumption) | (with_reducible exact (‹_ ∧ _ ∧ Below _ _ _›).2.2) | (with_reducible refine below_drewN ?_ _) | (with_reducible refine Below.drew ?_) | ((with_reducible refine Below.alloc ?_ ?hsd _); (case hsd => (first | exact Nat.le_refl _ | (simp; done) | omega | (simp; omega) | exact (‹_ ∧ _ ∧ Below _ _ _›).2.2.size))) | ((with_reducible refine Below.setCell ?_ ?hsd _); (case hsd => (first | exact Nat.le_refl _ | (simp; done) | omega | (simp; omega) | exact (‹_ ∧ _ ∧ Below _ _ _›).2.2.size))) | ((with_reducible refine Below.trans ?_ (Below.mono (by with_reducible assumption) ?hsd)); (case hsd => (first | exact Nat.le_refl _ | (simp; done) | omega | (simp; omega) | exact (‹_ ∧ _ ∧ Below _ _ _›).2.2.size))) | exact Below.refl _ _ | assumption | exact (‹_ ∧ _ ∧ Below _ _ _›).2.2 | refine below_drewN ?_ _ | refine Below.drew ?_ | refine Below.alloc ?_ (by first | exact Nat.le_refl _ | (simp; done) | omega | (simp; omega) | exact (‹_ ∧ _ ∧ Below _ _ _›).2.2.size) _ | refine Below.setCell ?_ (by first | exact Nat.le_refl _ | (simp; done) | omega | (simp; omega) | exact (‹_ ∧ _ ∧ Below _ _ _›).2.2.size) _ | refine Below.trans ?_ (Below.mono (by assumption) (by first | exact Nat.le_refl _ | (simp; done) | omega | (simp; omega) | exact (‹_ ∧ _ ∧ Below _ _ _›).2.2.size))))
  have hsw_w1 := hbw_w1.size
  have hzz_w1 : w.heap.size ≤ ((w.alloc (.cells #[.int .i64 d, .int .i64 f, .slice A n c] 24)).alloc (.cells #[.int .i64 d2, .int .i64 f2, .slice A2 n2 c2] 24)).heap.size := (by simp; try omega)
  generalize ((w.alloc (.cells #[.int .i64 d, .int .i64 f, .slice A n c] 24)).alloc (.cells #[.int .i64 d2, .int .i64 f2, .slice A2 n2 c2] 24)) = w1 at *
  refine (l_szCard d f w.heap.size A n c ss (1048576) _ hsw_w1 (hS.rd.below hbw_w1) (by omega) (fun s hs => by have := hS.sb s hs; omega) (by omega) (by omega)).mono ?_
  rintro e w2 ⟨rfl, hb_w2⟩
  have hk_aB_w2 := blk_next hk_aB_w1 hb_w2
  have hk_aC_w2 := blk_next hk_aC_w1 hb_w2
  have hbw_w2 : Below w.heap.size w w2 := (by repeat (first | (with_reducible exact Below.refl _ _) | (with_reducible assumption) | (with_reducible exact (‹_ ∧ _ ∧ Below _ _ _›).2.2) | (with_reducible refine below_drewN ?_ _) | (with_reducible refine Below.drew ?_) | ((with_reducible refine Below.alloc ?_ ?hsd _); (case hsd => (first | exact Nat.le_refl _ | (simp; done) | omega | (simp; omega) | exact (‹_ ∧ _ ∧ Below _ _ _›).2.2.size))) | ((with_reducible refine Below.setCell ?_ ?hsd _); (case hsd => (first | exact Nat.le_refl _ | (simp; done) | omega | (simp; omega) | exact (‹_ ∧ _ ∧ Below _ _ _›).2.2.size))) | ((with_reducible refine Below.trans ?_ (Below.mono (by with_reducible assumption) ?hsd)); (case hsd => (first | exact Nat.le_refl _ | (simp; done) | omega | (simp; omega) | exact (‹_ ∧ _ ∧ Below _ _ _›).2.2.size))) | exact Below.refl _ _ | assumption | exact (‹_ ∧ _ ∧ Below _ _ _›).2.2 | refine below_drewN ?_ _ | refine Below.drew ?_ | refine Below.alloc ?_ (by first | exact Nat.le_refl _ | (simp; done) | omega | (simp; omega) | exact (‹_ ∧ _ ∧ Below _ _ _›).2.2.size) _ | refine Below.setCell ?_ (by first | exact Nat.le_refl _ | (simp; done) | omega | (simp; omega) | exact (‹_ ∧ _ ∧ Below _ _ _›).2.2.size) _ | refine Below.trans ?_ (Below.mono (by assumption) (by first | exact Nat.le_refl _ | (simp; done) | omega | (simp; omega) | exact (‹_ ∧ _ ∧ Below _ _ _›).2.2.size))))
  have hsw_w2 := hbw_w2.size
  clear hk_aB_w1 hk_aC_w1 hbw_w1 hsw_w1 hb_w2
  have hub_w2 : szStrs ss 1048576 ≤ 1048576 := sz_ub _ _ (by omega)
  obtain ⟨hx0_aB, hx1_aB, hx2_aB, hxl_aB⟩ := blk3 hk_aB_w2
  obtain ⟨hx0_aC, hx1_aC, hx2_aC, hxl_aC⟩ := blk3 hk_aC_w2
  go_wp2_with fail
  refine (l_szCard d2 f2 w.heap.size A2 n2 c2 ss2 (szStrs ss 1048576) _ hsw_w2 (hS2.rd.below hbw_w2) (by omega) (fun s hs => by have := hS2.sb s hs; omega) (by omega) (by omega)).mono ?_
  rintro e w3 ⟨rfl, hb_w3⟩
  clear hx0_aB hx1_aB hx2_aB hxl_aB hx0_aC hx1_aC hx2_aC hxl_aC
  have hk_aB_w3 := blk_next hk_aB_w2 hb_w3
  have hk_aC_w3 := blk_next hk_aC_w2 hb_w3
  have hbw_w3 : Below w.heap.size w w3 := (by repeat (first | (with_reducible exact Below.refl _ _) | (with_reducible assumption) | (with_reducible exact (‹_ ∧ _ ∧ Below _ _ _›).2.2) | (with_reducible refine below_drewN ?_ _) | (with_reducible refine Below.drew ?_) | ((with_reducible refine Below.alloc ?_ ?hsd _); (case hsd => (first | exact Nat.le_refl _ | (simp; done) | omega | (simp; omega) | exact (‹_ ∧ _ ∧ Below _ _ _›).2.2.size))) | ((with_reducible refine Below.setCell ?_ ?hsd _); (case hsd => (first | exact Nat.le_refl _ | (simp; done) | omega | (simp; omega) | exact (‹_ ∧ _ ∧ Below _ _ _›).2.2.size))) | ((with_reducible refine Below.trans ?_ (Below.mono (by with_reducible assumption) ?hsd)); (case hsd => (first | exact Nat.le_refl _ | (simp; done) | omega | (simp; omega) | exact (‹_ ∧ _ ∧ Below _ _ _›).2.2.size))) | exact Below.refl _ _ | assumption | exact (‹_ ∧ _ ∧ Below _ _ _›).2.2 | refine below_drewN ?_ _ | refine Below.drew ?_ | refine Below.alloc ?_ (by first | exact Nat.le_refl _ | (simp; done) | omega | (simp; omega) | exact (‹_ ∧ _ ∧ Below _ _ _›).2.2.size) _ | refine Below.setCell ?_ (by first | exact Nat.le_refl _ | (simp; done) | omega | (simp; omega) | exact (‹_ ∧ _ ∧ Below _ _ _›).2.2.size) _ | refine Below.trans ?_ (Below.mono (by assumption) (by first | exact Nat.le_refl _ | (simp; done) | omega | (simp; omega) | exact (‹_ ∧ _ ∧ Below _ _ _›).2.2.size))))
  have hsw_w3 := hbw_w3.size
  clear hk_aB_w2 hk_aC_w2 hbw_w2 hsw_w2 hb_w3
  have hub_w3 : szStrs ss2 (szStrs ss 1048576) ≤ 1048576 := sz_ub _ _ (by omega)
  obtain ⟨hx0_aB, hx1_aB, hx2_aB, hxl_aB⟩ := blk3 hk_aB_w3
  obtain ⟨hx0_aC, hx1_aC, hx2_aC, hxl_aC⟩ := blk3 hk_aC_w3
  go_upto_region 8 with fail
  have hS_c := hS.below hbw_w3
  have hS2_c := hS2.below hbw_w3
  go_cut [6] (fun s6 wx => s6 = .int .i64 rv ∧ Below w3.heap.size w3 wx)
  case first =>
    go_region_held3 (fun W => (∀ b o, b < w3.heap.size → W.cell? ⟨b, o, none⟩ = (w3).cell? ⟨b, o, none⟩) ∧ (∀ b o, b < w3.heap.size → W.frozen? ⟨b, o, none⟩ = (w3).frozen? ⟨b, o, none⟩) ∧ Below (w3.heap.size) (w3) W) (exact keep_of (by repeat (first | (with_reducible exact Below.refl _ _) | (with_reducible assumption) | (with_reducible exact (‹_ ∧ _ ∧ Below _ _ _›).2.2) | (with_reducible refine below_drewN ?_ _) | (with_reducible refine Below.drew ?_) | ((with_reducible refine Below.alloc ?_ ?hsd _); (case hsd => (first | exact Nat.le_refl _ | (simp; done) | omega | (simp; omega) | exact (‹_ ∧ _ ∧ Below _ _ _›).2.2.size))) | ((with_reducible refine Below.setCell ?_ ?hsd _); (case hsd => (first | exact Nat.le_refl _ | (simp; done) | omega | (simp; omega) | exact (‹_ ∧ _ ∧ Below _ _ _›).2.2.size))) | ((with_reducible refine Below.trans ?_ (Below.mono (by with_reducible assumption) ?hsd)); (case hsd => (first | exact Nat.le_refl _ | (simp; done) | omega | (simp; omega) | exact (‹_ ∧ _ ∧ Below _ _ _›).2.2.size))) | exact Below.refl _ _ | assumption | exact (‹_ ∧ _ ∧ Below _ _ _›).2.2 | refine below_drewN ?_ _ | refine Below.drew ?_ | refine Below.alloc ?_ (by first | exact Nat.le_refl _ | (simp; done) | omega | (simp; omega) | exact (‹_ ∧ _ ∧ Below _ _ _›).2.2.size) _ | refine Below.setCell ?_ (by first | exact Nat.le_refl _ | (simp; done) | omega | (simp; omega) | exact (‹_ ∧ _ ∧ Below _ _ _›).2.2.size) _ | refine Below.trans ?_ (Below.mono (by assumption) (by first | exact Nat.le_refl _ | (simp; done) | omega | (simp; omega) | exact (‹_ ∧ _ ∧ Below _ _ _›).2.2.size))))) (first | (go_at_call_of 17 (Value.agg #[.int .i64 d, .int .i64 f, .slice A n c]); have hq := (‹_ ∧ _ ∧ Below _ _ _›).2.2; refine (l_toCard d f w.heap.size A n c ss _ ?_ ?_).mono ?_; exact hS_c.below (hq.mono hsw_w3); exact Nat.le_trans hsw_w3 hq.size; rintro e wt1_0 ⟨At1_0, ct1_0, rfl, hor1_0, hbt1_0⟩; (have hot1_0 := own_base (base' := w3.heap.size) hor1_0 (by first | exact hq.size | exact Nat.le_refl _)); clear hor1_0; have hqs1_0 := hq.size; have hbs1_0 := hbt1_0.size; (try simp at hqs1_0); (try simp at hbs1_0); obtain ⟨hcb1_0, hfb1_0⟩ := bcell hbt1_0; (try (have hzl_w3_1_0 : w3.heap.size < wt1_0.heap.size := (by omega)))) | (go_at_call_of 17 (Value.agg #[.int .i64 d2, .int .i64 f2, .slice A2 n2 c2]); have hq := (‹_ ∧ _ ∧ Below _ _ _›).2.2; refine (l_toCard d2 f2 w.heap.size A2 n2 c2 ss2 _ ?_ ?_).mono ?_; exact hS2_c.below (hq.mono hsw_w3); exact Nat.le_trans hsw_w3 hq.size; rintro e wt1_1 ⟨At1_1, ct1_1, rfl, hor1_1, hbt1_1⟩; (have hot1_1 := own_base (base' := w3.heap.size) hor1_1 (by first | exact hq.size | exact Nat.le_refl _)); clear hor1_1; have hqs1_1 := hq.size; have hbs1_1 := hbt1_1.size; (try simp at hqs1_1); (try simp at hbs1_1); (have hot1_0 : wt1_1.ownsRow w3.heap.size 9 1 (.slice At1_0 ss.length ct1_0) ss.length (ss.map Value.string) := (by first | exact own_below hot1_0 hbt1_1 | exact own_below (hot1_0.alloc _) hbt1_1)); obtain ⟨hcb1_1, hfb1_1⟩ := bcell hbt1_1; (try (have hzl_w3_1_1 : w3.heap.size < wt1_1.heap.size := (by omega))); (try (have hzl_wt1_0_1_1 : wt1_0.heap.size < wt1_1.heap.size := (by omega)))) | (go_at_call 25; refine (unhide HSPEC _ _ _ (by first | exact strs_of_own hot1_0 (by have := HL.out; omega) hS.sb | exact strs_of_own (hot1_0.alloc _) (by have := HL.out; omega) hS.sb) (own_cap hot1_0) _ _ (by first | exact strs_of_own hot1_1 (by have := HL2.out; omega) hS2.sb | exact strs_of_own (hot1_1.alloc _) (by have := HL2.out; omega) hS2.sb) (own_cap hot1_1)).mono ?_; rintro e wf1 ⟨rfl, hbf1⟩))
    all_goals (go_wp2_with fail)
    all_goals (go_meet)
    all_goals (refine ⟨rfl, ?_⟩; exact (by repeat (first | (with_reducible exact Below.refl _ _) | (with_reducible assumption) | (with_reducible exact (‹_ ∧ _ ∧ Below _ _ _›).2.2) | (with_reducible refine below_drewN ?_ _) | (with_reducible refine Below.drew ?_) | ((with_reducible refine Below.alloc ?_ ?hsd _); (case hsd => (first | exact Nat.le_refl _ | (simp; done) | omega | (simp; omega) | exact (‹_ ∧ _ ∧ Below _ _ _›).2.2.size))) | ((with_reducible refine Below.setCell ?_ ?hsd _); (case hsd => (first | exact Nat.le_refl _ | (simp; done) | omega | (simp; omega) | exact (‹_ ∧ _ ∧ Below _ _ _›).2.2.size))) | ((with_reducible refine Below.trans ?_ (Below.mono (by with_reducible assumption) ?hsd)); (case hsd => (first | exact Nat.le_refl _ | (simp; done) | omega | (simp; omega) | exact (‹_ ∧ _ ∧ Below _ _ _›).2.2.size))) | exact Below.refl _ _ | assumption | exact (‹_ ∧ _ ∧ Below _ _ _›).2.2 | refine below_drewN ?_ _ | refine Below.drew ?_ | refine Below.alloc ?_ (by first | exact Nat.le_refl _ | (simp; done) | omega | (simp; omega) | exact (‹_ ∧ _ ∧ Below _ _ _›).2.2.size) _ | refine Below.setCell ?_ (by first | exact Nat.le_refl _ | (simp; done) | omega | (simp; omega) | exact (‹_ ∧ _ ∧ Below _ _ _›).2.2.size) _ | refine Below.trans ?_ (Below.mono (by assumption) (by first | exact Nat.le_refl _ | (simp; done) | omega | (simp; omega) | exact (‹_ ∧ _ ∧ Below _ _ _›).2.2.size)))))
  obtain ⟨rfl, hbn⟩ := hcut
  obtain ⟨w4, hwc⟩ : ∃ W, W = wc := ⟨_, rfl⟩
  subst hwc
  clear hx0_aB hx1_aB hx2_aB hxl_aB hx0_aC hx1_aC hx2_aC hxl_aC
  have hk_aB_w4 := blk_next hk_aB_w3 hbn
  have hk_aC_w4 := blk_next hk_aC_w3 hbn
  have hbw_w4 : Below w.heap.size w w4 := (by repeat (first | (with_reducible exact Below.refl _ _) | (with_reducible assumption) | (with_reducible exact (‹_ ∧ _ ∧ Below _ _ _›).2.2) | (with_reducible refine below_drewN ?_ _) | (with_reducible refine Below.drew ?_) | ((with_reducible refine Below.alloc ?_ ?hsd _); (case hsd => (first | exact Nat.le_refl _ | (simp; done) | omega | (simp; omega) | exact (‹_ ∧ _ ∧ Below _ _ _›).2.2.size))) | ((with_reducible refine Below.setCell ?_ ?hsd _); (case hsd => (first | exact Nat.le_refl _ | (simp; done) | omega | (simp; omega) | exact (‹_ ∧ _ ∧ Below _ _ _›).2.2.size))) | ((with_reducible refine Below.trans ?_ (Below.mono (by with_reducible assumption) ?hsd)); (case hsd => (first | exact Nat.le_refl _ | (simp; done) | omega | (simp; omega) | exact (‹_ ∧ _ ∧ Below _ _ _›).2.2.size))) | exact Below.refl _ _ | assumption | exact (‹_ ∧ _ ∧ Below _ _ _›).2.2 | refine below_drewN ?_ _ | refine Below.drew ?_ | refine Below.alloc ?_ (by first | exact Nat.le_refl _ | (simp; done) | omega | (simp; omega) | exact (‹_ ∧ _ ∧ Below _ _ _›).2.2.size) _ | refine Below.setCell ?_ (by first | exact Nat.le_refl _ | (simp; done) | omega | (simp; omega) | exact (‹_ ∧ _ ∧ Below _ _ _›).2.2.size) _ | refine Below.trans ?_ (Below.mono (by assumption) (by first | exact Nat.le_refl _ | (simp; done) | omega | (simp; omega) | exact (‹_ ∧ _ ∧ Below _ _ _›).2.2.size))))
  have hsw_w4 := hbw_w4.size
  clear hk_aB_w3 hk_aC_w3 hbw_w3 hsw_w3 hbn
  clear hS_c hS2_c
  obtain ⟨hx0_aB, hx1_aB, hx2_aB, hxl_aB⟩ := blk3 hk_aB_w4
  obtain ⟨hx0_aC, hx1_aC, hx2_aC, hxl_aC⟩ := blk3 hk_aC_w4
  go_wp2_with fail
  refine (l_toCard d f w.heap.size A n c ss _ (hS.below hbw_w4) hsw_w4).mono ?_
  rintro e w5 ⟨Ax0, cx0, rfl, hon, hb_w5⟩
  have hbase_x0 : w.heap.size ≤ w4.heap.size := hsw_w4
  clear hx0_aB hx1_aB hx2_aB hxl_aB hx0_aC hx1_aC hx2_aC hxl_aC
  have hk_aB_w5 := blk_next hk_aB_w4 hb_w5
  have hk_aC_w5 := blk_next hk_aC_w4 hb_w5
  have hbw_w5 : Below w.heap.size w w5 := (by repeat (first | (with_reducible exact Below.refl _ _) | (with_reducible assumption) | (with_reducible exact (‹_ ∧ _ ∧ Below _ _ _›).2.2) | (with_reducible refine below_drewN ?_ _) | (with_reducible refine Below.drew ?_) | ((with_reducible refine Below.alloc ?_ ?hsd _); (case hsd => (first | exact Nat.le_refl _ | (simp; done) | omega | (simp; omega) | exact (‹_ ∧ _ ∧ Below _ _ _›).2.2.size))) | ((with_reducible refine Below.setCell ?_ ?hsd _); (case hsd => (first | exact Nat.le_refl _ | (simp; done) | omega | (simp; omega) | exact (‹_ ∧ _ ∧ Below _ _ _›).2.2.size))) | ((with_reducible refine Below.trans ?_ (Below.mono (by with_reducible assumption) ?hsd)); (case hsd => (first | exact Nat.le_refl _ | (simp; done) | omega | (simp; omega) | exact (‹_ ∧ _ ∧ Below _ _ _›).2.2.size))) | exact Below.refl _ _ | assumption | exact (‹_ ∧ _ ∧ Below _ _ _›).2.2 | refine below_drewN ?_ _ | refine Below.drew ?_ | refine Below.alloc ?_ (by first | exact Nat.le_refl _ | (simp; done) | omega | (simp; omega) | exact (‹_ ∧ _ ∧ Below _ _ _›).2.2.size) _ | refine Below.setCell ?_ (by first | exact Nat.le_refl _ | (simp; done) | omega | (simp; omega) | exact (‹_ ∧ _ ∧ Below _ _ _›).2.2.size) _ | refine Below.trans ?_ (Below.mono (by assumption) (by first | exact Nat.le_refl _ | (simp; done) | omega | (simp; omega) | exact (‹_ ∧ _ ∧ Below _ _ _›).2.2.size))))
  have hsw_w5 := hbw_w5.size
  clear hk_aB_w4 hk_aC_w4 hbw_w4 hsw_w4 hb_w5
  have ho_x0_w5 := hon
  clear hon
  obtain ⟨hx0_aB, hx1_aB, hx2_aB, hxl_aB⟩ := blk3 hk_aB_w5
  obtain ⟨hx0_aC, hx1_aC, hx2_aC, hxl_aC⟩ := blk3 hk_aC_w5
  go_wp2_with fail
  clear hx0_aB hx1_aB hx2_aB hxl_aB hx0_aC hx1_aC hx2_aC hxl_aC
  have hk_aB_w6 := (blk_alloc hk_aB_w5 (.cells #[.int .i64 d, .int .i64 f, .slice Ax0 ss.length cx0] 28))
  have hk_aC_w6 := (blk_alloc hk_aC_w5 (.cells #[.int .i64 d, .int .i64 f, .slice Ax0 ss.length cx0] 28))
  have hk_x0_w6 := (blk_new_at w5 (.cells #[.int .i64 d, .int .i64 f, .slice Ax0 ss.length cx0] 28) (k := w5.heap.size) (by simp))
  have ho_x0_w6 := (ho_x0_w5.alloc (.cells #[.int .i64 d, .int .i64 f, .slice Ax0 ss.length cx0] 28))
  have hbw_w6 : Below w.heap.size w (w5.alloc (.cells #[.int .i64 d, .int .i64 f, .slice Ax0 ss.length cx0] 28)) := (by repeat (first | (with_reducible exact Below.refl _ _) | (with_reducible assumption) | (with_reducible exact (‹_ ∧ _ ∧ Below _ _ _›).2.2) | (with_reducible refine below_drewN ?_ _) | (with_reducible refine Below.drew ?_) | ((with_reducible refine Below.alloc ?_ ?hsd _); (case hsd => (first | exact Nat.le_refl _ | (simp; done) | omega | (simp; omega) | exact (‹_ ∧ _ ∧ Below _ _ _›).2.2.size))) | ((with_reducible refine Below.setCell ?_ ?hsd _); (case hsd => (first | exact Nat.le_refl _ | (simp; done) | omega | (simp; omega) | exact (‹_ ∧ _ ∧ Below _ _ _›).2.2.size))) | ((with_reducible refine Below.trans ?_ (Below.mono (by with_reducible assumption) ?hsd)); (case hsd => (first | exact Nat.le_refl _ | (simp; done) | omega | (simp; omega) | exact (‹_ ∧ _ ∧ Below _ _ _›).2.2.size))) | exact Below.refl _ _ | assumption | exact (‹_ ∧ _ ∧ Below _ _ _›).2.2 | refine below_drewN ?_ _ | refine Below.drew ?_ | refine Below.alloc ?_ (by first | exact Nat.le_refl _ | (simp; done) | omega | (simp; omega) | exact (‹_ ∧ _ ∧ Below _ _ _›).2.2.size) _ | refine Below.setCell ?_ (by first | exact Nat.le_refl _ | (simp; done) | omega | (simp; omega) | exact (‹_ ∧ _ ∧ Below _ _ _›).2.2.size) _ | refine Below.trans ?_ (Below.mono (by assumption) (by first | exact Nat.le_refl _ | (simp; done) | omega | (simp; omega) | exact (‹_ ∧ _ ∧ Below _ _ _›).2.2.size))))
  have hsw_w6 := hbw_w6.size
  have hzz_w6 : w5.heap.size ≤ (w5.alloc (.cells #[.int .i64 d, .int .i64 f, .slice Ax0 ss.length cx0] 28)).heap.size := (by simp; try omega)
  generalize (w5.alloc (.cells #[.int .i64 d, .int .i64 f, .slice Ax0 ss.length cx0] 28)) = w6 at *
  clear hk_aB_w5 hk_aC_w5 ho_x0_w5 hbw_w5 hsw_w5
  refine (l_toCard d2 f2 w.heap.size A2 n2 c2 ss2 _ (hS2.below hbw_w6) hsw_w6).mono ?_
  rintro e w7 ⟨Ax1, cx1, rfl, hon, hb_w7⟩
  have hbase_x1 : w.heap.size ≤ w6.heap.size := hsw_w6
  have hlt_x0_x1 := hide (ltb ho_x0_w6)
  have hk_aB_w7 := blk_next hk_aB_w6 hb_w7
  have hk_aC_w7 := blk_next hk_aC_w6 hb_w7
  have hk_x0_w7 := blk_next hk_x0_w6 hb_w7
  have ho_x0_w7 := own_below ho_x0_w6 hb_w7
  have hbw_w7 : Below w.heap.size w w7 := (by repeat (first | (with_reducible exact Below.refl _ _) | (with_reducible assumption) | (with_reducible exact (‹_ ∧ _ ∧ Below _ _ _›).2.2) | (with_reducible refine below_drewN ?_ _) | (with_reducible refine Below.drew ?_) | ((with_reducible refine Below.alloc ?_ ?hsd _); (case hsd => (first | exact Nat.le_refl _ | (simp; done) | omega | (simp; omega) | exact (‹_ ∧ _ ∧ Below _ _ _›).2.2.size))) | ((with_reducible refine Below.setCell ?_ ?hsd _); (case hsd => (first | exact Nat.le_refl _ | (simp; done) | omega | (simp; omega) | exact (‹_ ∧ _ ∧ Below _ _ _›).2.2.size))) | ((with_reducible refine Below.trans ?_ (Below.mono (by with_reducible assumption) ?hsd)); (case hsd => (first | exact Nat.le_refl _ | (simp; done) | omega | (simp; omega) | exact (‹_ ∧ _ ∧ Below _ _ _›).2.2.size))) | exact Below.refl _ _ | assumption | exact (‹_ ∧ _ ∧ Below _ _ _›).2.2 | refine below_drewN ?_ _ | refine Below.drew ?_ | refine Below.alloc ?_ (by first | exact Nat.le_refl _ | (simp; done) | omega | (simp; omega) | exact (‹_ ∧ _ ∧ Below _ _ _›).2.2.size) _ | refine Below.setCell ?_ (by first | exact Nat.le_refl _ | (simp; done) | omega | (simp; omega) | exact (‹_ ∧ _ ∧ Below _ _ _›).2.2.size) _ | refine Below.trans ?_ (Below.mono (by assumption) (by first | exact Nat.le_refl _ | (simp; done) | omega | (simp; omega) | exact (‹_ ∧ _ ∧ Below _ _ _›).2.2.size))))
  have hsw_w7 := hbw_w7.size
  clear hk_aB_w6 hk_aC_w6 hk_x0_w6 ho_x0_w6 hbw_w6 hsw_w6 hb_w7
  have ho_x1_w7 := hon
  clear hon
  obtain ⟨hx0_aB, hx1_aB, hx2_aB, hxl_aB⟩ := blk3 hk_aB_w7
  obtain ⟨hx0_aC, hx1_aC, hx2_aC, hxl_aC⟩ := blk3 hk_aC_w7
  obtain ⟨hx0_x0, hx1_x0, hx2_x0, hxl_x0⟩ := blk3 hk_x0_w7
  go_wp2_with fail
  clear hx0_aB hx1_aB hx2_aB hxl_aB hx0_aC hx1_aC hx2_aC hxl_aC hx0_x0 hx1_x0 hx2_x0 hxl_x0
  have hk_aB_w8 := (blk_alloc hk_aB_w7 (.cells #[.int .i64 d2, .int .i64 f2, .slice Ax1 ss2.length cx1] 28))
  have hk_aC_w8 := (blk_alloc hk_aC_w7 (.cells #[.int .i64 d2, .int .i64 f2, .slice Ax1 ss2.length cx1] 28))
  have hk_x0_w8 := (blk_alloc hk_x0_w7 (.cells #[.int .i64 d2, .int .i64 f2, .slice Ax1 ss2.length cx1] 28))
  have hk_x1_w8 := (blk_new_at w7 (.cells #[.int .i64 d2, .int .i64 f2, .slice Ax1 ss2.length cx1] 28) (k := w7.heap.size) (by simp))
  have ho_x0_w8 := (ho_x0_w7.alloc (.cells #[.int .i64 d2, .int .i64 f2, .slice Ax1 ss2.length cx1] 28))
  have ho_x1_w8 := (ho_x1_w7.alloc (.cells #[.int .i64 d2, .int .i64 f2, .slice Ax1 ss2.length cx1] 28))
  have hbw_w8 : Below w.heap.size w (w7.alloc (.cells #[.int .i64 d2, .int .i64 f2, .slice Ax1 ss2.length cx1] 28)) := (by repeat (first | (with_reducible exact Below.refl _ _) | (with_reducible assumption) | (with_reducible exact (‹_ ∧ _ ∧ Below _ _ _›).2.2) | (with_reducible refine below_drewN ?_ _) | (with_reducible refine Below.drew ?_) | ((with_reducible refine Below.alloc ?_ ?hsd _); (case hsd => (first | exact Nat.le_refl _ | (simp; done) | omega | (simp; omega) | exact (‹_ ∧ _ ∧ Below _ _ _›).2.2.size))) | ((with_reducible refine Below.setCell ?_ ?hsd _); (case hsd => (first | exact Nat.le_refl _ | (simp; done) | omega | (simp; omega) | exact (‹_ ∧ _ ∧ Below _ _ _›).2.2.size))) | ((with_reducible refine Below.trans ?_ (Below.mono (by with_reducible assumption) ?hsd)); (case hsd => (first | exact Nat.le_refl _ | (simp; done) | omega | (simp; omega) | exact (‹_ ∧ _ ∧ Below _ _ _›).2.2.size))) | exact Below.refl _ _ | assumption | exact (‹_ ∧ _ ∧ Below _ _ _›).2.2 | refine below_drewN ?_ _ | refine Below.drew ?_ | refine Below.alloc ?_ (by first | exact Nat.le_refl _ | (simp; done) | omega | (simp; omega) | exact (‹_ ∧ _ ∧ Below _ _ _›).2.2.size) _ | refine Below.setCell ?_ (by first | exact Nat.le_refl _ | (simp; done) | omega | (simp; omega) | exact (‹_ ∧ _ ∧ Below _ _ _›).2.2.size) _ | refine Below.trans ?_ (Below.mono (by assumption) (by first | exact Nat.le_refl _ | (simp; done) | omega | (simp; omega) | exact (‹_ ∧ _ ∧ Below _ _ _›).2.2.size))))
  have hsw_w8 := hbw_w8.size
  have hzz_w8 : w7.heap.size ≤ (w7.alloc (.cells #[.int .i64 d2, .int .i64 f2, .slice Ax1 ss2.length cx1] 28)).heap.size := (by simp; try omega)
  generalize (w7.alloc (.cells #[.int .i64 d2, .int .i64 f2, .slice Ax1 ss2.length cx1] 28)) = w8 at *
  clear hk_aB_w7 hk_aC_w7 hk_x0_w7 ho_x0_w7 ho_x1_w7 hbw_w7 hsw_w7
  refine (unhide HIMPL _ _ _ (strs_of_own ho_x0_w8 (by have := HL.out; omega) hS.sb) (own_cap ho_x0_w8) _ _ (strs_of_own ho_x1_w8 (by have := HL2.out; omega) hS2.sb) (own_cap ho_x1_w8)).mono ?_
  rintro e w9 ⟨rfl, hb_w9⟩
  have hk_aB_w9 := blk_next hk_aB_w8 hb_w9
  have hk_aC_w9 := blk_next hk_aC_w8 hb_w9
  have hk_x0_w9 := blk_next hk_x0_w8 hb_w9
  have hk_x1_w9 := blk_next hk_x1_w8 hb_w9
  have ho_x0_w9 := own_below ho_x0_w8 hb_w9
  have ho_x1_w9 := own_below ho_x1_w8 hb_w9
  have hbw_w9 : Below w.heap.size w w9 := (by repeat (first | (with_reducible exact Below.refl _ _) | (with_reducible assumption) | (with_reducible exact (‹_ ∧ _ ∧ Below _ _ _›).2.2) | (with_reducible refine below_drewN ?_ _) | (with_reducible refine Below.drew ?_) | ((with_reducible refine Below.alloc ?_ ?hsd _); (case hsd => (first | exact Nat.le_refl _ | (simp; done) | omega | (simp; omega) | exact (‹_ ∧ _ ∧ Below _ _ _›).2.2.size))) | ((with_reducible refine Below.setCell ?_ ?hsd _); (case hsd => (first | exact Nat.le_refl _ | (simp; done) | omega | (simp; omega) | exact (‹_ ∧ _ ∧ Below _ _ _›).2.2.size))) | ((with_reducible refine Below.trans ?_ (Below.mono (by with_reducible assumption) ?hsd)); (case hsd => (first | exact Nat.le_refl _ | (simp; done) | omega | (simp; omega) | exact (‹_ ∧ _ ∧ Below _ _ _›).2.2.size))) | exact Below.refl _ _ | assumption | exact (‹_ ∧ _ ∧ Below _ _ _›).2.2 | refine below_drewN ?_ _ | refine Below.drew ?_ | refine Below.alloc ?_ (by first | exact Nat.le_refl _ | (simp; done) | omega | (simp; omega) | exact (‹_ ∧ _ ∧ Below _ _ _›).2.2.size) _ | refine Below.setCell ?_ (by first | exact Nat.le_refl _ | (simp; done) | omega | (simp; omega) | exact (‹_ ∧ _ ∧ Below _ _ _›).2.2.size) _ | refine Below.trans ?_ (Below.mono (by assumption) (by first | exact Nat.le_refl _ | (simp; done) | omega | (simp; omega) | exact (‹_ ∧ _ ∧ Below _ _ _›).2.2.size))))
  have hsw_w9 := hbw_w9.size
  clear hk_aB_w8 hk_aC_w8 hk_x0_w8 hk_x1_w8 ho_x0_w8 ho_x1_w8 hbw_w8 hsw_w8 hb_w9
  obtain ⟨hx0_aB, hx1_aB, hx2_aB, hxl_aB⟩ := blk3 hk_aB_w9
  obtain ⟨hx0_aC, hx1_aC, hx2_aC, hxl_aC⟩ := blk3 hk_aC_w9
  obtain ⟨hx0_x0, hx1_x0, hx2_x0, hxl_x0⟩ := blk3 hk_x0_w9
  obtain ⟨hx0_x1, hx1_x1, hx2_x1, hxl_x1⟩ := blk3 hk_x1_w9
  go_wp2_with fail
  have hS_c := hS.below hbw_w9
  have hX_c := strs_of_own ho_x0_w9 (by have := HL.out; omega) hS.sb
  go_region_held3 (fun W => (∀ b o, b < w9.heap.size → W.cell? ⟨b, o, none⟩ = (w9).cell? ⟨b, o, none⟩) ∧ (∀ b o, b < w9.heap.size → W.frozen? ⟨b, o, none⟩ = (w9).frozen? ⟨b, o, none⟩) ∧ Below (w9.heap.size) (w9) W) (exact keep_of (by repeat (first | (with_reducible exact Below.refl _ _) | (with_reducible assumption) | (with_reducible exact (‹_ ∧ _ ∧ Below _ _ _›).2.2) | (with_reducible refine below_drewN ?_ _) | (with_reducible refine Below.drew ?_) | ((with_reducible refine Below.alloc ?_ ?hsd _); (case hsd => (first | exact Nat.le_refl _ | (simp; done) | omega | (simp; omega) | exact (‹_ ∧ _ ∧ Below _ _ _›).2.2.size))) | ((with_reducible refine Below.setCell ?_ ?hsd _); (case hsd => (first | exact Nat.le_refl _ | (simp; done) | omega | (simp; omega) | exact (‹_ ∧ _ ∧ Below _ _ _›).2.2.size))) | ((with_reducible refine Below.trans ?_ (Below.mono (by with_reducible assumption) ?hsd)); (case hsd => (first | exact Nat.le_refl _ | (simp; done) | omega | (simp; omega) | exact (‹_ ∧ _ ∧ Below _ _ _›).2.2.size))) | exact Below.refl _ _ | assumption | exact (‹_ ∧ _ ∧ Below _ _ _›).2.2 | refine below_drewN ?_ _ | refine Below.drew ?_ | refine Below.alloc ?_ (by first | exact Nat.le_refl _ | (simp; done) | omega | (simp; omega) | exact (‹_ ∧ _ ∧ Below _ _ _›).2.2.size) _ | refine Below.setCell ?_ (by first | exact Nat.le_refl _ | (simp; done) | omega | (simp; omega) | exact (‹_ ∧ _ ∧ Below _ _ _›).2.2.size) _ | refine Below.trans ?_ (Below.mono (by assumption) (by first | exact Nat.le_refl _ | (simp; done) | omega | (simp; omega) | exact (‹_ ∧ _ ∧ Below _ _ _›).2.2.size))))) (first | (go_at_call 17; have hq := (‹_ ∧ _ ∧ Below _ _ _›).2.2; refine (l_toCard d f w.heap.size A n c ss _ ?_ ?_).mono ?_; exact hS_c.below (hq.mono hsw_w9); exact Nat.le_trans hsw_w9 hq.size; rintro e wa_w10 ⟨Aa, ca, rfl, hoa, hba⟩) | (go_at_call 20; have hq2 := (‹_ ∧ _ ∧ Below _ _ _›).2.2; refine (l_eqCard_args d f wa_w10.heap.size _ _ _ _ _ _ ss _ ?_ ?_ ?_).mono ?_; exact (hX_c.below hq2).more hq2.size; exact strs_of_own hoa (by have := HL.out; omega) hS.sb; exact Nat.le_refl _; rintro e w10 ⟨rfl, hbz⟩))
  have hz7 : w9.heap.size ≤ wa_w10.heap.size := hba.size
  have hb67 : Below w9.heap.size w9 wa_w10 := (Below.refl _ _).drew.trans hba
  have hb68 : Below w9.heap.size w9 w10 := hb67.trans (hbz.mono hz7)
  clear hS_c hX_c hoa hba hbz hb67 hz7
  clear hx0_aB hx1_aB hx2_aB hxl_aB hx0_aC hx1_aC hx2_aC hxl_aC hx0_x0 hx1_x0 hx2_x0 hxl_x0 hx0_x1 hx1_x1 hx2_x1 hxl_x1
  have hk_aB_w10 := blk_next hk_aB_w9 hb68
  have hk_aC_w10 := blk_next hk_aC_w9 hb68
  have hk_x0_w10 := blk_next hk_x0_w9 hb68
  have hk_x1_w10 := blk_next hk_x1_w9 hb68
  have ho_x0_w10 := own_below ho_x0_w9 hb68
  have ho_x1_w10 := own_below ho_x1_w9 hb68
  have hbw_w10 : Below w.heap.size w w10 := (by repeat (first | (with_reducible exact Below.refl _ _) | (with_reducible assumption) | (with_reducible exact (‹_ ∧ _ ∧ Below _ _ _›).2.2) | (with_reducible refine below_drewN ?_ _) | (with_reducible refine Below.drew ?_) | ((with_reducible refine Below.alloc ?_ ?hsd _); (case hsd => (first | exact Nat.le_refl _ | (simp; done) | omega | (simp; omega) | exact (‹_ ∧ _ ∧ Below _ _ _›).2.2.size))) | ((with_reducible refine Below.setCell ?_ ?hsd _); (case hsd => (first | exact Nat.le_refl _ | (simp; done) | omega | (simp; omega) | exact (‹_ ∧ _ ∧ Below _ _ _›).2.2.size))) | ((with_reducible refine Below.trans ?_ (Below.mono (by with_reducible assumption) ?hsd)); (case hsd => (first | exact Nat.le_refl _ | (simp; done) | omega | (simp; omega) | exact (‹_ ∧ _ ∧ Below _ _ _›).2.2.size))) | exact Below.refl _ _ | assumption | exact (‹_ ∧ _ ∧ Below _ _ _›).2.2 | refine below_drewN ?_ _ | refine Below.drew ?_ | refine Below.alloc ?_ (by first | exact Nat.le_refl _ | (simp; done) | omega | (simp; omega) | exact (‹_ ∧ _ ∧ Below _ _ _›).2.2.size) _ | refine Below.setCell ?_ (by first | exact Nat.le_refl _ | (simp; done) | omega | (simp; omega) | exact (‹_ ∧ _ ∧ Below _ _ _›).2.2.size) _ | refine Below.trans ?_ (Below.mono (by assumption) (by first | exact Nat.le_refl _ | (simp; done) | omega | (simp; omega) | exact (‹_ ∧ _ ∧ Below _ _ _›).2.2.size))))
  have hsw_w10 := hbw_w10.size
  clear hk_aB_w9 hk_aC_w9 hk_x0_w9 hk_x1_w9 ho_x0_w9 ho_x1_w9 hbw_w9 hsw_w9 hb68
  obtain ⟨hx0_aB, hx1_aB, hx2_aB, hxl_aB⟩ := blk3 hk_aB_w10
  obtain ⟨hx0_aC, hx1_aC, hx2_aC, hxl_aC⟩ := blk3 hk_aC_w10
  obtain ⟨hx0_x0, hx1_x0, hx2_x0, hxl_x0⟩ := blk3 hk_x0_w10
  obtain ⟨hx0_x1, hx1_x1, hx2_x1, hxl_x1⟩ := blk3 hk_x1_w10
  go_wp2_with fail
  have hS_c := hS2.below hbw_w10
  have hX_c := strs_of_own ho_x1_w10 (by have := HL2.out; omega) hS2.sb
  go_region_held3 (fun W => (∀ b o, b < w10.heap.size → W.cell? ⟨b, o, none⟩ = (w10).cell? ⟨b, o, none⟩) ∧ (∀ b o, b < w10.heap.size → W.frozen? ⟨b, o, none⟩ = (w10).frozen? ⟨b, o, none⟩) ∧ Below (w10.heap.size) (w10) W) (exact keep_of (by repeat (first | (with_reducible exact Below.refl _ _) | (with_reducible assumption) | (with_reducible exact (‹_ ∧ _ ∧ Below _ _ _›).2.2) | (with_reducible refine below_drewN ?_ _) | (with_reducible refine Below.drew ?_) | ((with_reducible refine Below.alloc ?_ ?hsd _); (case hsd => (first | exact Nat.le_refl _ | (simp; done) | omega | (simp; omega) | exact (‹_ ∧ _ ∧ Below _ _ _›).2.2.size))) | ((with_reducible refine Below.setCell ?_ ?hsd _); (case hsd => (first | exact Nat.le_refl _ | (simp; done) | omega | (simp; omega) | exact (‹_ ∧ _ ∧ Below _ _ _›).2.2.size))) | ((with_reducible refine Below.trans ?_ (Below.mono (by with_reducible assumption) ?hsd)); (case hsd => (first | exact Nat.le_refl _ | (simp; done) | omega | (simp; omega) | exact (‹_ ∧ _ ∧ Below _ _ _›).2.2.size))) | exact Below.refl _ _ | assumption | exact (‹_ ∧ _ ∧ Below _ _ _›).2.2 | refine below_drewN ?_ _ | refine Below.drew ?_ | refine Below.alloc ?_ (by first | exact Nat.le_refl _ | (simp; done) | omega | (simp; omega) | exact (‹_ ∧ _ ∧ Below _ _ _›).2.2.size) _ | refine Below.setCell ?_ (by first | exact Nat.le_refl _ | (simp; done) | omega | (simp; omega) | exact (‹_ ∧ _ ∧ Below _ _ _›).2.2.size) _ | refine Below.trans ?_ (Below.mono (by assumption) (by first | exact Nat.le_refl _ | (simp; done) | omega | (simp; omega) | exact (‹_ ∧ _ ∧ Below _ _ _›).2.2.size))))) (first | (go_at_call 17; have hq := (‹_ ∧ _ ∧ Below _ _ _›).2.2; refine (l_toCard d2 f2 w.heap.size A2 n2 c2 ss2 _ ?_ ?_).mono ?_; exact hS_c.below (hq.mono hsw_w10); exact Nat.le_trans hsw_w10 hq.size; rintro e wa_w11 ⟨Aa, ca, rfl, hoa, hba⟩) | (go_at_call 20; have hq2 := (‹_ ∧ _ ∧ Below _ _ _›).2.2; refine (l_eqCard_args d2 f2 wa_w11.heap.size _ _ _ _ _ _ ss2 _ ?_ ?_ ?_).mono ?_; exact (hX_c.below hq2).more hq2.size; exact strs_of_own hoa (by have := HL2.out; omega) hS2.sb; exact Nat.le_refl _; rintro e w11 ⟨rfl, hbz⟩))
  have hz7 : w10.heap.size ≤ wa_w11.heap.size := hba.size
  have hb67 : Below w10.heap.size w10 wa_w11 := (Below.refl _ _).drew.trans hba
  have hb68 : Below w10.heap.size w10 w11 := hb67.trans (hbz.mono hz7)
  clear hS_c hX_c hoa hba hbz hb67 hz7
  clear hx0_aB hx1_aB hx2_aB hxl_aB hx0_aC hx1_aC hx2_aC hxl_aC hx0_x0 hx1_x0 hx2_x0 hxl_x0 hx0_x1 hx1_x1 hx2_x1 hxl_x1
  have hk_aB_w11 := blk_next hk_aB_w10 hb68
  have hk_aC_w11 := blk_next hk_aC_w10 hb68
  have hk_x0_w11 := blk_next hk_x0_w10 hb68
  have hk_x1_w11 := blk_next hk_x1_w10 hb68
  have ho_x0_w11 := own_below ho_x0_w10 hb68
  have ho_x1_w11 := own_below ho_x1_w10 hb68
  have hbw_w11 : Below w.heap.size w w11 := (by repeat (first | (with_reducible exact Below.refl _ _) | (with_reducible assumption) | (with_reducible exact (‹_ ∧ _ ∧ Below _ _ _›).2.2) | (with_reducible refine below_drewN ?_ _) | (with_reducible refine Below.drew ?_) | ((with_reducible refine Below.alloc ?_ ?hsd _); (case hsd => (first | exact Nat.le_refl _ | (simp; done) | omega | (simp; omega) | exact (‹_ ∧ _ ∧ Below _ _ _›).2.2.size))) | ((with_reducible refine Below.setCell ?_ ?hsd _); (case hsd => (first | exact Nat.le_refl _ | (simp; done) | omega | (simp; omega) | exact (‹_ ∧ _ ∧ Below _ _ _›).2.2.size))) | ((with_reducible refine Below.trans ?_ (Below.mono (by with_reducible assumption) ?hsd)); (case hsd => (first | exact Nat.le_refl _ | (simp; done) | omega | (simp; omega) | exact (‹_ ∧ _ ∧ Below _ _ _›).2.2.size))) | exact Below.refl _ _ | assumption | exact (‹_ ∧ _ ∧ Below _ _ _›).2.2 | refine below_drewN ?_ _ | refine Below.drew ?_ | refine Below.alloc ?_ (by first | exact Nat.le_refl _ | (simp; done) | omega | (simp; omega) | exact (‹_ ∧ _ ∧ Below _ _ _›).2.2.size) _ | refine Below.setCell ?_ (by first | exact Nat.le_refl _ | (simp; done) | omega | (simp; omega) | exact (‹_ ∧ _ ∧ Below _ _ _›).2.2.size) _ | refine Below.trans ?_ (Below.mono (by assumption) (by first | exact Nat.le_refl _ | (simp; done) | omega | (simp; omega) | exact (‹_ ∧ _ ∧ Below _ _ _›).2.2.size))))
  have hsw_w11 := hbw_w11.size
  clear hk_aB_w10 hk_aC_w10 hk_x0_w10 hk_x1_w10 ho_x0_w10 ho_x1_w10 hbw_w10 hsw_w10 hb68
  obtain ⟨hx0_aB, hx1_aB, hx2_aB, hxl_aB⟩ := blk3 hk_aB_w11
  obtain ⟨hx0_aC, hx1_aC, hx2_aC, hxl_aC⟩ := blk3 hk_aC_w11
  obtain ⟨hx0_x0, hx1_x0, hx2_x0, hxl_x0⟩ := blk3 hk_x0_w11
  obtain ⟨hx0_x1, hx1_x1, hx2_x1, hxl_x1⟩ := blk3 hk_x1_w11
  go_wp2
  go_ret
  exact ⟨rfl, hbw_w11⟩

end Go.Proofs.Ytdkelaiadgechaa.fnExactSideDistance
