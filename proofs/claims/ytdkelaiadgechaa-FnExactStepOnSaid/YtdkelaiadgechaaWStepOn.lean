/- The walk of FnExactStepOn, for arguments that are not too large. -/
import Derived.Test.YtdkelaiadgechaaStep2
import Derived.Test.YtdkelaiadgechaaLawStep
import Derived.Test.YtdkelaiadgechaaLift
import Derived.Test.YtdkelaiadgechaaLawKit2
import Derived.Deep.Slices
import Derived.SliceStrings
import Derived.Lib.SmallJoins
import Derived.Deep.DeepCutAuto
import Derived.Deep.RegionHeld3
namespace Go.Proofs.Ytdkelaiadgechaa.fnExactStepOn
open Go.ChangeShapes Go.WideShapes Go.ChangeAt Go.RowKit Go.Joins Go.WideMaps Go.WideElems
open Go.ChangeMaps (open_string shut_string)
set_option linter.unusedVariables false

set_option maxRecDepth 100000 in
set_option maxHeartbeats 8000000 in
theorem walkStepOn (d f : Int) (A : Option Addr) (n c : Nat) (ss : List ByteArray) (K F L T I : Int) (bs as_ : ByteArray) (w : World) (hS : Strs w w.heap.size A n ss) (hn : n ≤ 1048576) (hbs : bs.size ≤ 1048576) (has : as_.size ≤ 1048576) (hz1 : 0 ≤ szStrs ss 1048576) (hz2 : 0 ≤ szStep bs as_ (szStrs ss 1048576)) :
    Calls Try.prog 14 #[.agg #[.int .i64 d, .int .i64 f, .slice A n c], .agg #[.int .i64 K, .int .i64 F, .int .i64 L, .int .i64 T, .int .i64 I, .string bs, .string as_]] w fun e w' => e = .returned (.bool true) ∧ Below w.heap.size w w' := by
  have hl := hS.len
  obtain ⟨hrl, hrs⟩ : ((stepRes true d f ss K F L T I bs as_).1).length ≤ 1048576 ∧ ∀ x ∈ ((stepRes true d f ss K F L T I bs as_).1), x.size ≤ 16777216 := by
    have hl2 := hl
    exact stepRes_ok true d f ss K F L T I bs as_ 1048576 (by omega) (by omega) hS.sb (by omega) (by omega)
  have hspec := fun (W : World) (A0 : Option Addr) (c0 : Nat) (h : Strs W W.heap.size A0 ss.length ss) (hc0 : ss.length ≤ c0 ∧ c0 ≤ 9223372036854775807) => s_StepOn d f W.heap.size A0 ss.length c0 ss K F L T I bs as_ W h (Nat.le_refl _) (by omega) (by omega)
  have himpl := fun (W : World) (A0 : Option Addr) (c0 : Nat) (h : Strs W W.heap.size A0 ss.length ss) (hc0 : ss.length ≤ c0 ∧ c0 ≤ 9223372036854775807) => i_StepOn d f W.heap.size A0 ss.length c0 ss K F L T I bs as_ W h (Nat.le_refl _) (by omega) (by omega)
  have HL := Lib.hid hl
  clear hl
  generalize hs2 : ((stepRes true d f ss K F L T I bs as_).1) = ss2r at hspec himpl hrl hrs
  generalize hgen0 : ((stepRes true d f ss K F L T I bs as_).2) = rb at hspec himpl
  clear hs2 hgen0
  have HSPEC := hide hspec
  have HIMPL := hide himpl
  clear hspec himpl
  have HRS := hide hrs
  clear hrs
  go_enter Try.func14, Try.ntmps14
  go_wp2_with fail
  have hk_aC_w1 := (blk_alloc (blk_new_at w (.cells #[.int .i64 d, .int .i64 f, .slice A n c] 24) (k := w.heap.size) (by simp)) (.cells #[.int .i64 K, .int .i64 F, .int .i64 L, .int .i64 T, .int .i64 I, .string bs, .string as_] 80))
  have hk_aS_w1 := (blk_new_at (w.alloc (.cells #[.int .i64 d, .int .i64 f, .slice A n c] 24)) (.cells #[.int .i64 K, .int .i64 F, .int .i64 L, .int .i64 T, .int .i64 I, .string bs, .string as_] 80) (k := w.heap.size + 1) (by simp))
  have hbw_w1 : Below w.heap.size w ((w.alloc (.cells #[.int .i64 d, .int .i64 f, .slice A n c] 24)).alloc (.cells #[.int .i64 K, .int .i64 F, .int .i64 L, .int .i64 T, .int .i64 I, .string bs, .string as_] 80)) := (by repeat (first | (with_reducible exact Below.refl _ _) | (with_reducible assumption) | (with_reducible exact (‹_ ∧ _ ∧ Below _ _ _›).2.2) | (with_reducible refine below_drewN ?_ _) | (with_reducible refine Below.drew ?_) | ((with_reducible refine Below.alloc ?_ ?hsd _); (case hsd => (first | exact Nat.le_refl _ | (simp; done) | omega | (simp; omega) | exact (‹_ ∧ _ ∧ Below _ _ _›).2.2.size))) | ((with_reducible refine Below.setCell ?_ ?hsd _); (case hsd => (first | exact Nat.le_refl _ | (simp; done) | omega | (simp; omega) | exact (‹_ ∧ _ ∧ Below _ _ _›).2.2.size))) | ((with_reducible refine Below.trans ?_ (Below.mono (by with_reducible assumption) ?hsd)); (case hsd => (first | exact Nat.le_refl _ | (simp; done) | omega | (simp; omega) | exact (‹_ ∧ _ ∧ Below _ _ _›).2.2.size))) | exact Below.refl _ _ | assumption | exact (‹_ ∧ _ ∧ Below _ _ _›).2.2 | refine below_drewN ?_ _ | refine Below.drew ?_ | refine Below.alloc ?_ (by first | exact Nat.le_refl _ | (simp; done) | omega | (simp; omega) | exact (‹_ ∧ _ ∧ Below _ _ _›).2.2.size) _ | refine Below.setCell ?_ (by first | exact Nat.le_refl _ | (simp; done) | omega | (simp; omega) | exact (‹_ ∧ _ ∧ Below _ _ _›).2.2.size) _ | refine Below.trans ?_ (Below.mono (by assumption) (by first | exact Nat.le_refl _ | (simp; done) | omega | (simp; omega) | exact (‹_ ∧ _ ∧ Below _ _ _›).2.2.size))))
  have hsw_w1 := hbw_w1.size
  have hzz_w1 : w.heap.size ≤ ((w.alloc (.cells #[.int .i64 d, .int .i64 f, .slice A n c] 24)).alloc (.cells #[.int .i64 K, .int .i64 F, .int .i64 L, .int .i64 T, .int .i64 I, .string bs, .string as_] 80)).heap.size := (by simp; try omega)
  generalize ((w.alloc (.cells #[.int .i64 d, .int .i64 f, .slice A n c] 24)).alloc (.cells #[.int .i64 K, .int .i64 F, .int .i64 L, .int .i64 T, .int .i64 I, .string bs, .string as_] 80)) = w1 at *
  refine (l_szCard d f w.heap.size A n c ss (1048576) _ hsw_w1 (hS.rd.below hbw_w1) (by omega) (fun s hs => by have := hS.sb s hs; omega) (by omega) (by omega)).mono ?_
  rintro e w2 ⟨rfl, hb_w2⟩
  have hk_aC_w2 := blk_next hk_aC_w1 hb_w2
  have hk_aS_w2 := blk_next hk_aS_w1 hb_w2
  have hbw_w2 : Below w.heap.size w w2 := (by repeat (first | (with_reducible exact Below.refl _ _) | (with_reducible assumption) | (with_reducible exact (‹_ ∧ _ ∧ Below _ _ _›).2.2) | (with_reducible refine below_drewN ?_ _) | (with_reducible refine Below.drew ?_) | ((with_reducible refine Below.alloc ?_ ?hsd _); (case hsd => (first | exact Nat.le_refl _ | (simp; done) | omega | (simp; omega) | exact (‹_ ∧ _ ∧ Below _ _ _›).2.2.size))) | ((with_reducible refine Below.setCell ?_ ?hsd _); (case hsd => (first | exact Nat.le_refl _ | (simp; done) | omega | (simp; omega) | exact (‹_ ∧ _ ∧ Below _ _ _›).2.2.size))) | ((with_reducible refine Below.trans ?_ (Below.mono (by with_reducible assumption) ?hsd)); (case hsd => (first | exact Nat.le_refl _ | (simp; done) | omega | (simp; omega) | exact (‹_ ∧ _ ∧ Below _ _ _›).2.2.size))) | exact Below.refl _ _ | assumption | exact (‹_ ∧ _ ∧ Below _ _ _›).2.2 | refine below_drewN ?_ _ | refine Below.drew ?_ | refine Below.alloc ?_ (by first | exact Nat.le_refl _ | (simp; done) | omega | (simp; omega) | exact (‹_ ∧ _ ∧ Below _ _ _›).2.2.size) _ | refine Below.setCell ?_ (by first | exact Nat.le_refl _ | (simp; done) | omega | (simp; omega) | exact (‹_ ∧ _ ∧ Below _ _ _›).2.2.size) _ | refine Below.trans ?_ (Below.mono (by assumption) (by first | exact Nat.le_refl _ | (simp; done) | omega | (simp; omega) | exact (‹_ ∧ _ ∧ Below _ _ _›).2.2.size))))
  have hsw_w2 := hbw_w2.size
  clear hk_aC_w1 hk_aS_w1 hbw_w1 hsw_w1 hb_w2
  have hub_w2 : szStrs ss 1048576 ≤ 1048576 := sz_ub _ _ (by omega)
  obtain ⟨hx0_aC, hx1_aC, hx2_aC, hxl_aC⟩ := blk3 hk_aC_w2
  obtain ⟨hx0_aS, hx1_aS, hx2_aS, hx3_aS, hx4_aS, hx5_aS, hx6_aS, hxl_aS⟩ := blk7 hk_aS_w2
  go_wp2_with fail
  refine (l_szStep K F L T I bs as_ (szStrs ss 1048576) _ (by omega) (by omega) (by omega) (by omega)).mono ?_
  rintro e w3 ⟨rfl, hb_w3⟩
  clear hx0_aC hx1_aC hx2_aC hxl_aC hx0_aS hx1_aS hx2_aS hx3_aS hx4_aS hx5_aS hx6_aS hxl_aS
  have hk_aC_w3 := blk_next hk_aC_w2 hb_w3
  have hk_aS_w3 := blk_next hk_aS_w2 hb_w3
  have hbw_w3 : Below w.heap.size w w3 := (by repeat (first | (with_reducible exact Below.refl _ _) | (with_reducible assumption) | (with_reducible exact (‹_ ∧ _ ∧ Below _ _ _›).2.2) | (with_reducible refine below_drewN ?_ _) | (with_reducible refine Below.drew ?_) | ((with_reducible refine Below.alloc ?_ ?hsd _); (case hsd => (first | exact Nat.le_refl _ | (simp; done) | omega | (simp; omega) | exact (‹_ ∧ _ ∧ Below _ _ _›).2.2.size))) | ((with_reducible refine Below.setCell ?_ ?hsd _); (case hsd => (first | exact Nat.le_refl _ | (simp; done) | omega | (simp; omega) | exact (‹_ ∧ _ ∧ Below _ _ _›).2.2.size))) | ((with_reducible refine Below.trans ?_ (Below.mono (by with_reducible assumption) ?hsd)); (case hsd => (first | exact Nat.le_refl _ | (simp; done) | omega | (simp; omega) | exact (‹_ ∧ _ ∧ Below _ _ _›).2.2.size))) | exact Below.refl _ _ | assumption | exact (‹_ ∧ _ ∧ Below _ _ _›).2.2 | refine below_drewN ?_ _ | refine Below.drew ?_ | refine Below.alloc ?_ (by first | exact Nat.le_refl _ | (simp; done) | omega | (simp; omega) | exact (‹_ ∧ _ ∧ Below _ _ _›).2.2.size) _ | refine Below.setCell ?_ (by first | exact Nat.le_refl _ | (simp; done) | omega | (simp; omega) | exact (‹_ ∧ _ ∧ Below _ _ _›).2.2.size) _ | refine Below.trans ?_ (Below.mono (by assumption) (by first | exact Nat.le_refl _ | (simp; done) | omega | (simp; omega) | exact (‹_ ∧ _ ∧ Below _ _ _›).2.2.size))))
  have hsw_w3 := hbw_w3.size
  clear hk_aC_w2 hk_aS_w2 hbw_w2 hsw_w2 hb_w3
  have hub_w3 : szStep bs as_ (szStrs ss 1048576) ≤ 1048576 := sz_ub_step _ _ _ (by omega)
  obtain ⟨hx0_aC, hx1_aC, hx2_aC, hxl_aC⟩ := blk3 hk_aC_w3
  obtain ⟨hx0_aS, hx1_aS, hx2_aS, hx3_aS, hx4_aS, hx5_aS, hx6_aS, hxl_aS⟩ := blk7 hk_aS_w3
  go_upto_region 8 with fail
  have hS_c := hS.below hbw_w3
  go_cut [6, 7] (fun s6 s7 wx => ∃ (g1 : Nat) (A1 : Option Addr) (c1 : Nat), s6 = .pointer (some ⟨g1, 0, none⟩) ∧ s7 = .bool rb ∧ wx.heap[g1]? = some (.cells #[.int .i64 d, .int .i64 f, .slice A1 ss2r.length c1] 28 (0, 0)) ∧ wx.ownsRow w3.heap.size 9 1 (.slice A1 ss2r.length c1) ss2r.length (ss2r.map Value.string) ∧ Below w3.heap.size w3 wx)
  case first =>
    go_region_held3 (fun W => (∀ b o, b < w3.heap.size → W.cell? ⟨b, o, none⟩ = (w3).cell? ⟨b, o, none⟩) ∧ (∀ b o, b < w3.heap.size → W.frozen? ⟨b, o, none⟩ = (w3).frozen? ⟨b, o, none⟩) ∧ Below (w3.heap.size) (w3) W) (exact keep_of (by repeat (first | (with_reducible exact Below.refl _ _) | (with_reducible assumption) | (with_reducible exact (‹_ ∧ _ ∧ Below _ _ _›).2.2) | (with_reducible refine below_drewN ?_ _) | (with_reducible refine Below.drew ?_) | ((with_reducible refine Below.alloc ?_ ?hsd _); (case hsd => (first | exact Nat.le_refl _ | (simp; done) | omega | (simp; omega) | exact (‹_ ∧ _ ∧ Below _ _ _›).2.2.size))) | ((with_reducible refine Below.setCell ?_ ?hsd _); (case hsd => (first | exact Nat.le_refl _ | (simp; done) | omega | (simp; omega) | exact (‹_ ∧ _ ∧ Below _ _ _›).2.2.size))) | ((with_reducible refine Below.trans ?_ (Below.mono (by with_reducible assumption) ?hsd)); (case hsd => (first | exact Nat.le_refl _ | (simp; done) | omega | (simp; omega) | exact (‹_ ∧ _ ∧ Below _ _ _›).2.2.size))) | exact Below.refl _ _ | assumption | exact (‹_ ∧ _ ∧ Below _ _ _›).2.2 | refine below_drewN ?_ _ | refine Below.drew ?_ | refine Below.alloc ?_ (by first | exact Nat.le_refl _ | (simp; done) | omega | (simp; omega) | exact (‹_ ∧ _ ∧ Below _ _ _›).2.2.size) _ | refine Below.setCell ?_ (by first | exact Nat.le_refl _ | (simp; done) | omega | (simp; omega) | exact (‹_ ∧ _ ∧ Below _ _ _›).2.2.size) _ | refine Below.trans ?_ (Below.mono (by assumption) (by first | exact Nat.le_refl _ | (simp; done) | omega | (simp; omega) | exact (‹_ ∧ _ ∧ Below _ _ _›).2.2.size))))) (first | (go_at_call 17; have hq := (‹_ ∧ _ ∧ Below _ _ _›).2.2; refine (l_toCard d f w.heap.size A n c ss _ ?_ ?_).mono ?_; exact hS_c.below (hq.mono hsw_w3); exact Nat.le_trans hsw_w3 hq.size; rintro e wt1_0 ⟨At1_0, ct1_0, rfl, hor1_0, hbt1_0⟩; (have hot1_0 := own_base (base' := w3.heap.size) hor1_0 (by first | exact hq.size | exact Nat.le_refl _)); clear hor1_0; have hqs1_0 := hq.size; have hbs1_0 := hbt1_0.size; (try simp at hqs1_0); (try simp at hbs1_0); obtain ⟨hcb1_0, hfb1_0⟩ := bcell hbt1_0; (try (have hzl_w3_1_0 : w3.heap.size < wt1_0.heap.size := (by omega)))) | (go_at_call 69; have hq := (‹_ ∧ _ ∧ Below _ _ _›).2.2; refine (l_toStep K F L T I bs as_ _).mono ?_; rintro e wt1_1 ⟨rfl, hbt1_1⟩; have hqs1_1 := hq.size; have hbs1_1 := hbt1_1.size; (try simp at hqs1_1); (try simp at hbs1_1); (have hot1_0 : wt1_1.ownsRow w3.heap.size 9 1 (.slice At1_0 ss.length ct1_0) ss.length (ss.map Value.string) := (by first | exact own_below hot1_0 hbt1_1 | exact own_below (hot1_0.alloc _) hbt1_1)); obtain ⟨hcb1_1, hfb1_1⟩ := bcell hbt1_1; (try (have hzl_w3_1_1 : w3.heap.size < wt1_1.heap.size := (by omega))); (try (have hzl_wt1_0_1_1 : wt1_0.heap.size < wt1_1.heap.size := (by omega)))) | (go_at_call 71; have hqf := (‹_ ∧ _ ∧ Below _ _ _›).2.2; refine (unhide HSPEC _ _ _ (by first | exact strs_of_own hot1_0 (by have := HL.out; omega) hS.sb | exact strs_of_own (hot1_0.alloc _) (by have := HL.out; omega) hS.sb) (own_cap hot1_0)).mono ?_; rintro e wf1 ⟨Af1, cf1, rfl, horf1, hbf1⟩; (have hof1 := own_base (base' := w3.heap.size) horf1 (by first | exact hqf.size | exact Nat.le_refl _)); clear horf1; have hqsf := hqf.size; have hbsf := hbf1.size; (try simp at hqsf); (try simp at hbsf); obtain ⟨hcbf1, hfbf1⟩ := bcell hbf1; (try (have hzl_w3_f : w3.heap.size < wf1.heap.size := (by omega))); (try (have hzl_wt1_0_f : wt1_0.heap.size < wf1.heap.size := (by omega))); (try (have hzl_wt1_1_f : wt1_1.heap.size < wf1.heap.size := (by omega)))))
    all_goals (go_wp2_with fail)
    all_goals (go_meet)
    all_goals (
      refine ⟨_, Af1, cf1, rfl, rfl, ?_, ?_, ?_⟩
      first
        | exact blk_new _ _
        | exact blk3_set (by first | exact blk_next (blk_new _ _) hbf1 | exact blk_next (blk_next (blk_new _ _) hbt1_1) hbf1 | exact blk_next (blk_next (blk_next (blk_new _ _) hbt1_0) hbt1_1) hbf1 | exact blk_next (blk_next (blk_next (blk_drew (blk_new _ _)) hbt1_0) hbt1_1) hbf1) _ _ _
      first
        | exact hof1.alloc _
        | exact own3_set hof1 (by first | exact blk_next (blk_new _ _) hbf1 | exact blk_next (blk_next (blk_new _ _) hbt1_1) hbf1 | exact blk_next (blk_next (blk_next (blk_new _ _) hbt1_0) hbt1_1) hbf1 | exact blk_next (blk_next (blk_next (blk_drew (blk_new _ _)) hbt1_0) hbt1_1) hbf1) (by decide) _ _ _
      exact (by repeat (first | (with_reducible exact Below.refl _ _) | (with_reducible assumption) | (with_reducible exact (‹_ ∧ _ ∧ Below _ _ _›).2.2) | (with_reducible refine below_drewN ?_ _) | (with_reducible refine Below.drew ?_) | ((with_reducible refine Below.alloc ?_ ?hsd _); (case hsd => (first | exact Nat.le_refl _ | (simp; done) | omega | (simp; omega) | exact (‹_ ∧ _ ∧ Below _ _ _›).2.2.size))) | ((with_reducible refine Below.setCell ?_ ?hsd _); (case hsd => (first | exact Nat.le_refl _ | (simp; done) | omega | (simp; omega) | exact (‹_ ∧ _ ∧ Below _ _ _›).2.2.size))) | ((with_reducible refine Below.trans ?_ (Below.mono (by with_reducible assumption) ?hsd)); (case hsd => (first | exact Nat.le_refl _ | (simp; done) | omega | (simp; omega) | exact (‹_ ∧ _ ∧ Below _ _ _›).2.2.size))) | exact Below.refl _ _ | assumption | exact (‹_ ∧ _ ∧ Below _ _ _›).2.2 | refine below_drewN ?_ _ | refine Below.drew ?_ | refine Below.alloc ?_ (by first | exact Nat.le_refl _ | (simp; done) | omega | (simp; omega) | exact (‹_ ∧ _ ∧ Below _ _ _›).2.2.size) _ | refine Below.setCell ?_ (by first | exact Nat.le_refl _ | (simp; done) | omega | (simp; omega) | exact (‹_ ∧ _ ∧ Below _ _ _›).2.2.size) _ | refine Below.trans ?_ (Below.mono (by assumption) (by first | exact Nat.le_refl _ | (simp; done) | omega | (simp; omega) | exact (‹_ ∧ _ ∧ Below _ _ _›).2.2.size)))))
  obtain ⟨g1, A1, c1, rfl, rfl, hkn, hon, hbn⟩ := hcut
  obtain ⟨w4, hwc⟩ : ∃ W, W = wc := ⟨_, rfl⟩
  subst hwc
  have hbase_w0 : w.heap.size ≤ w3.heap.size := hsw_w3
  clear hx0_aC hx1_aC hx2_aC hxl_aC hx0_aS hx1_aS hx2_aS hx3_aS hx4_aS hx5_aS hx6_aS hxl_aS
  have hk_aC_w4 := blk_next hk_aC_w3 hbn
  have hk_aS_w4 := blk_next hk_aS_w3 hbn
  have hbw_w4 : Below w.heap.size w w4 := (by repeat (first | (with_reducible exact Below.refl _ _) | (with_reducible assumption) | (with_reducible exact (‹_ ∧ _ ∧ Below _ _ _›).2.2) | (with_reducible refine below_drewN ?_ _) | (with_reducible refine Below.drew ?_) | ((with_reducible refine Below.alloc ?_ ?hsd _); (case hsd => (first | exact Nat.le_refl _ | (simp; done) | omega | (simp; omega) | exact (‹_ ∧ _ ∧ Below _ _ _›).2.2.size))) | ((with_reducible refine Below.setCell ?_ ?hsd _); (case hsd => (first | exact Nat.le_refl _ | (simp; done) | omega | (simp; omega) | exact (‹_ ∧ _ ∧ Below _ _ _›).2.2.size))) | ((with_reducible refine Below.trans ?_ (Below.mono (by with_reducible assumption) ?hsd)); (case hsd => (first | exact Nat.le_refl _ | (simp; done) | omega | (simp; omega) | exact (‹_ ∧ _ ∧ Below _ _ _›).2.2.size))) | exact Below.refl _ _ | assumption | exact (‹_ ∧ _ ∧ Below _ _ _›).2.2 | refine below_drewN ?_ _ | refine Below.drew ?_ | refine Below.alloc ?_ (by first | exact Nat.le_refl _ | (simp; done) | omega | (simp; omega) | exact (‹_ ∧ _ ∧ Below _ _ _›).2.2.size) _ | refine Below.setCell ?_ (by first | exact Nat.le_refl _ | (simp; done) | omega | (simp; omega) | exact (‹_ ∧ _ ∧ Below _ _ _›).2.2.size) _ | refine Below.trans ?_ (Below.mono (by assumption) (by first | exact Nat.le_refl _ | (simp; done) | omega | (simp; omega) | exact (‹_ ∧ _ ∧ Below _ _ _›).2.2.size))))
  have hsw_w4 := hbw_w4.size
  clear hk_aC_w3 hk_aS_w3 hbw_w3 hsw_w3 hbn
  have ho_w0_w4 := hon
  clear hon
  have hk_w0_w4 := hkn
  clear hkn
  clear hS_c
  obtain ⟨hx0_aC, hx1_aC, hx2_aC, hxl_aC⟩ := blk3 hk_aC_w4
  obtain ⟨hx0_aS, hx1_aS, hx2_aS, hx3_aS, hx4_aS, hx5_aS, hx6_aS, hxl_aS⟩ := blk7 hk_aS_w4
  obtain ⟨hx0_w0, hx1_w0, hx2_w0, hxl_w0⟩ := blk3 hk_w0_w4
  go_wp2_with fail
  refine (l_toCard d f w.heap.size A n c ss _ (hS.below hbw_w4) hsw_w4).mono ?_
  rintro e w5 ⟨Ax0, cx0, rfl, hon, hb_w5⟩
  have hbase_x0 : w.heap.size ≤ w4.heap.size := hsw_w4
  have hlt_w0_x0 := hide (ltb ho_w0_w4)
  clear hx0_aC hx1_aC hx2_aC hxl_aC hx0_aS hx1_aS hx2_aS hx3_aS hx4_aS hx5_aS hx6_aS hxl_aS hx0_w0 hx1_w0 hx2_w0 hxl_w0
  have hk_aC_w5 := blk_next hk_aC_w4 hb_w5
  have hk_aS_w5 := blk_next hk_aS_w4 hb_w5
  have hk_w0_w5 := blk_next hk_w0_w4 hb_w5
  have ho_w0_w5 := own_below ho_w0_w4 hb_w5
  have hbw_w5 : Below w.heap.size w w5 := (by repeat (first | (with_reducible exact Below.refl _ _) | (with_reducible assumption) | (with_reducible exact (‹_ ∧ _ ∧ Below _ _ _›).2.2) | (with_reducible refine below_drewN ?_ _) | (with_reducible refine Below.drew ?_) | ((with_reducible refine Below.alloc ?_ ?hsd _); (case hsd => (first | exact Nat.le_refl _ | (simp; done) | omega | (simp; omega) | exact (‹_ ∧ _ ∧ Below _ _ _›).2.2.size))) | ((with_reducible refine Below.setCell ?_ ?hsd _); (case hsd => (first | exact Nat.le_refl _ | (simp; done) | omega | (simp; omega) | exact (‹_ ∧ _ ∧ Below _ _ _›).2.2.size))) | ((with_reducible refine Below.trans ?_ (Below.mono (by with_reducible assumption) ?hsd)); (case hsd => (first | exact Nat.le_refl _ | (simp; done) | omega | (simp; omega) | exact (‹_ ∧ _ ∧ Below _ _ _›).2.2.size))) | exact Below.refl _ _ | assumption | exact (‹_ ∧ _ ∧ Below _ _ _›).2.2 | refine below_drewN ?_ _ | refine Below.drew ?_ | refine Below.alloc ?_ (by first | exact Nat.le_refl _ | (simp; done) | omega | (simp; omega) | exact (‹_ ∧ _ ∧ Below _ _ _›).2.2.size) _ | refine Below.setCell ?_ (by first | exact Nat.le_refl _ | (simp; done) | omega | (simp; omega) | exact (‹_ ∧ _ ∧ Below _ _ _›).2.2.size) _ | refine Below.trans ?_ (Below.mono (by assumption) (by first | exact Nat.le_refl _ | (simp; done) | omega | (simp; omega) | exact (‹_ ∧ _ ∧ Below _ _ _›).2.2.size))))
  have hsw_w5 := hbw_w5.size
  clear hk_aC_w4 hk_aS_w4 hk_w0_w4 ho_w0_w4 hbw_w4 hsw_w4 hb_w5
  have ho_x0_w5 := hon
  clear hon
  obtain ⟨hx0_aC, hx1_aC, hx2_aC, hxl_aC⟩ := blk3 hk_aC_w5
  obtain ⟨hx0_aS, hx1_aS, hx2_aS, hx3_aS, hx4_aS, hx5_aS, hx6_aS, hxl_aS⟩ := blk7 hk_aS_w5
  obtain ⟨hx0_w0, hx1_w0, hx2_w0, hxl_w0⟩ := blk3 hk_w0_w5
  go_upto_region 10 with fail
  clear hx0_aC hx1_aC hx2_aC hxl_aC hx0_aS hx1_aS hx2_aS hx3_aS hx4_aS hx5_aS hx6_aS hxl_aS hx0_w0 hx1_w0 hx2_w0 hxl_w0
  have hk_aC_w6 := (blk_alloc hk_aC_w5 (.cells #[.int .i64 d, .int .i64 f, .slice Ax0 ss.length cx0] 28))
  have hk_aS_w6 := (blk_alloc hk_aS_w5 (.cells #[.int .i64 d, .int .i64 f, .slice Ax0 ss.length cx0] 28))
  have hk_w0_w6 := (blk_alloc hk_w0_w5 (.cells #[.int .i64 d, .int .i64 f, .slice Ax0 ss.length cx0] 28))
  have hk_x0_w6 := (blk_new_at w5 (.cells #[.int .i64 d, .int .i64 f, .slice Ax0 ss.length cx0] 28) (k := w5.heap.size) (by simp))
  have ho_w0_w6 := (ho_w0_w5.alloc (.cells #[.int .i64 d, .int .i64 f, .slice Ax0 ss.length cx0] 28))
  have ho_x0_w6 := (ho_x0_w5.alloc (.cells #[.int .i64 d, .int .i64 f, .slice Ax0 ss.length cx0] 28))
  have hbw_w6 : Below w.heap.size w (w5.alloc (.cells #[.int .i64 d, .int .i64 f, .slice Ax0 ss.length cx0] 28)) := (by repeat (first | (with_reducible exact Below.refl _ _) | (with_reducible assumption) | (with_reducible exact (‹_ ∧ _ ∧ Below _ _ _›).2.2) | (with_reducible refine below_drewN ?_ _) | (with_reducible refine Below.drew ?_) | ((with_reducible refine Below.alloc ?_ ?hsd _); (case hsd => (first | exact Nat.le_refl _ | (simp; done) | omega | (simp; omega) | exact (‹_ ∧ _ ∧ Below _ _ _›).2.2.size))) | ((with_reducible refine Below.setCell ?_ ?hsd _); (case hsd => (first | exact Nat.le_refl _ | (simp; done) | omega | (simp; omega) | exact (‹_ ∧ _ ∧ Below _ _ _›).2.2.size))) | ((with_reducible refine Below.trans ?_ (Below.mono (by with_reducible assumption) ?hsd)); (case hsd => (first | exact Nat.le_refl _ | (simp; done) | omega | (simp; omega) | exact (‹_ ∧ _ ∧ Below _ _ _›).2.2.size))) | exact Below.refl _ _ | assumption | exact (‹_ ∧ _ ∧ Below _ _ _›).2.2 | refine below_drewN ?_ _ | refine Below.drew ?_ | refine Below.alloc ?_ (by first | exact Nat.le_refl _ | (simp; done) | omega | (simp; omega) | exact (‹_ ∧ _ ∧ Below _ _ _›).2.2.size) _ | refine Below.setCell ?_ (by first | exact Nat.le_refl _ | (simp; done) | omega | (simp; omega) | exact (‹_ ∧ _ ∧ Below _ _ _›).2.2.size) _ | refine Below.trans ?_ (Below.mono (by assumption) (by first | exact Nat.le_refl _ | (simp; done) | omega | (simp; omega) | exact (‹_ ∧ _ ∧ Below _ _ _›).2.2.size))))
  have hsw_w6 := hbw_w6.size
  have hzz_w6 : w5.heap.size ≤ (w5.alloc (.cells #[.int .i64 d, .int .i64 f, .slice Ax0 ss.length cx0] 28)).heap.size := (by simp; try omega)
  generalize (w5.alloc (.cells #[.int .i64 d, .int .i64 f, .slice Ax0 ss.length cx0] 28)) = w6 at *
  clear hk_aC_w5 hk_aS_w5 hk_w0_w5 ho_w0_w5 ho_x0_w5 hbw_w5 hsw_w5
  obtain ⟨hx0_aC, hx1_aC, hx2_aC, hxl_aC⟩ := blk3 hk_aC_w6
  obtain ⟨hx0_aS, hx1_aS, hx2_aS, hx3_aS, hx4_aS, hx5_aS, hx6_aS, hxl_aS⟩ := blk7 hk_aS_w6
  obtain ⟨hx0_w0, hx1_w0, hx2_w0, hxl_w0⟩ := blk3 hk_w0_w6
  obtain ⟨hx0_x0, hx1_x0, hx2_x0, hxl_x0⟩ := blk3 hk_x0_w6
  go_cut [9, 10] (fun s9 s10 wx => ∃ (g2 : Nat) (A2 : Option Addr) (c2 : Nat), s9 = .pointer (some ⟨g2, 0, none⟩) ∧ s10 = .bool rb ∧ wx.heap[g2]? = some (.cells #[.int .i64 d, .int .i64 f, .slice A2 ss2r.length c2] 28 (0, 0)) ∧ wx.ownsRow w6.heap.size 9 1 (.slice A2 ss2r.length c2) ss2r.length (ss2r.map Value.string) ∧ Below w6.heap.size w6 wx)
  case first =>
    go_region_held3 (fun W => (∀ b o, b < w6.heap.size → W.cell? ⟨b, o, none⟩ = (w6).cell? ⟨b, o, none⟩) ∧ (∀ b o, b < w6.heap.size → W.frozen? ⟨b, o, none⟩ = (w6).frozen? ⟨b, o, none⟩) ∧ Below (w6.heap.size) (w6) W) (exact keep_of (by repeat (first | (with_reducible exact Below.refl _ _) | (with_reducible assumption) | (with_reducible exact (‹_ ∧ _ ∧ Below _ _ _›).2.2) | (with_reducible refine below_drewN ?_ _) | (with_reducible refine Below.drew ?_) | ((with_reducible refine Below.alloc ?_ ?hsd _); (case hsd => (first | exact Nat.le_refl _ | (simp; done) | omega | (simp; omega) | exact (‹_ ∧ _ ∧ Below _ _ _›).2.2.size))) | ((with_reducible refine Below.setCell ?_ ?hsd _); (case hsd => (first | exact Nat.le_refl _ | (simp; done) | omega | (simp; omega) | exact (‹_ ∧ _ ∧ Below _ _ _›).2.2.size))) | ((with_reducible refine Below.trans ?_ (Below.mono (by with_reducible assumption) ?hsd)); (case hsd => (first | exact Nat.le_refl _ | (simp; done) | omega | (simp; omega) | exact (‹_ ∧ _ ∧ Below _ _ _›).2.2.size))) | exact Below.refl _ _ | assumption | exact (‹_ ∧ _ ∧ Below _ _ _›).2.2 | refine below_drewN ?_ _ | refine Below.drew ?_ | refine Below.alloc ?_ (by first | exact Nat.le_refl _ | (simp; done) | omega | (simp; omega) | exact (‹_ ∧ _ ∧ Below _ _ _›).2.2.size) _ | refine Below.setCell ?_ (by first | exact Nat.le_refl _ | (simp; done) | omega | (simp; omega) | exact (‹_ ∧ _ ∧ Below _ _ _›).2.2.size) _ | refine Below.trans ?_ (Below.mono (by assumption) (by first | exact Nat.le_refl _ | (simp; done) | omega | (simp; omega) | exact (‹_ ∧ _ ∧ Below _ _ _›).2.2.size))))) (first | (go_at_call 69; have hq := (‹_ ∧ _ ∧ Below _ _ _›).2.2; refine (l_toStep K F L T I bs as_ _).mono ?_; rintro e wt2_0 ⟨rfl, hbt2_0⟩; have hqs2_0 := hq.size; have hbs2_0 := hbt2_0.size; (try simp at hqs2_0); (try simp at hbs2_0); obtain ⟨hcb2_0, hfb2_0⟩ := bcell hbt2_0; (try (have hzl_w6_2_0 : w6.heap.size < wt2_0.heap.size := (by omega)))) | (go_at_call 72; have hqf := (‹_ ∧ _ ∧ Below _ _ _›).2.2; refine (unhide HIMPL _ _ _ (by have hq := (‹_ ∧ _ ∧ Below _ _ _›).2.2; exact strs_of_own (own_below ho_x0_w6 hq) (by have := HL.out; omega) hS.sb) (own_cap ho_x0_w6)).mono ?_; rintro e wf2 ⟨Af2, cf2, rfl, horf2, hbf2⟩; (have hof2 := own_base (base' := w6.heap.size) horf2 (by first | exact hqf.size | exact Nat.le_refl _)); clear horf2; have hqsf := hqf.size; have hbsf := hbf2.size; (try simp at hqsf); (try simp at hbsf); obtain ⟨hcbf2, hfbf2⟩ := bcell hbf2; (try (have hzl_w6_f : w6.heap.size < wf2.heap.size := (by omega))); (try (have hzl_wt2_0_f : wt2_0.heap.size < wf2.heap.size := (by omega)))))
    all_goals (go_wp2_with fail)
    all_goals (go_meet)
    all_goals (
      refine ⟨_, Af2, cf2, rfl, rfl, ?_, ?_, ?_⟩
      first
        | exact blk_new _ _
        | exact blk3_set (by first | exact blk_next (blk_new _ _) hbf2 | exact blk_next (blk_next (blk_new _ _) hbt2_0) hbf2 | exact blk_next (blk_next (blk_drew (blk_new _ _)) hbt2_0) hbf2) _ _ _
      first
        | exact hof2.alloc _
        | exact own3_set hof2 (by first | exact blk_next (blk_new _ _) hbf2 | exact blk_next (blk_next (blk_new _ _) hbt2_0) hbf2 | exact blk_next (blk_next (blk_drew (blk_new _ _)) hbt2_0) hbf2) (by decide) _ _ _
      exact (by repeat (first | (with_reducible exact Below.refl _ _) | (with_reducible assumption) | (with_reducible exact (‹_ ∧ _ ∧ Below _ _ _›).2.2) | (with_reducible refine below_drewN ?_ _) | (with_reducible refine Below.drew ?_) | ((with_reducible refine Below.alloc ?_ ?hsd _); (case hsd => (first | exact Nat.le_refl _ | (simp; done) | omega | (simp; omega) | exact (‹_ ∧ _ ∧ Below _ _ _›).2.2.size))) | ((with_reducible refine Below.setCell ?_ ?hsd _); (case hsd => (first | exact Nat.le_refl _ | (simp; done) | omega | (simp; omega) | exact (‹_ ∧ _ ∧ Below _ _ _›).2.2.size))) | ((with_reducible refine Below.trans ?_ (Below.mono (by with_reducible assumption) ?hsd)); (case hsd => (first | exact Nat.le_refl _ | (simp; done) | omega | (simp; omega) | exact (‹_ ∧ _ ∧ Below _ _ _›).2.2.size))) | exact Below.refl _ _ | assumption | exact (‹_ ∧ _ ∧ Below _ _ _›).2.2 | refine below_drewN ?_ _ | refine Below.drew ?_ | refine Below.alloc ?_ (by first | exact Nat.le_refl _ | (simp; done) | omega | (simp; omega) | exact (‹_ ∧ _ ∧ Below _ _ _›).2.2.size) _ | refine Below.setCell ?_ (by first | exact Nat.le_refl _ | (simp; done) | omega | (simp; omega) | exact (‹_ ∧ _ ∧ Below _ _ _›).2.2.size) _ | refine Below.trans ?_ (Below.mono (by assumption) (by first | exact Nat.le_refl _ | (simp; done) | omega | (simp; omega) | exact (‹_ ∧ _ ∧ Below _ _ _›).2.2.size)))))
  obtain ⟨g2, A2, c2, rfl, rfl, hkn, hon, hbn⟩ := hcut
  obtain ⟨w7, hwc⟩ : ∃ W, W = wc := ⟨_, rfl⟩
  subst hwc
  have hbase_g0 : w.heap.size ≤ w6.heap.size := hsw_w6
  have hlt_w0_g0 := hide (ltb ho_w0_w6)
  have hlt_x0_g0 := hide (ltb ho_x0_w6)
  clear hx0_aC hx1_aC hx2_aC hxl_aC hx0_aS hx1_aS hx2_aS hx3_aS hx4_aS hx5_aS hx6_aS hxl_aS hx0_w0 hx1_w0 hx2_w0 hxl_w0 hx0_x0 hx1_x0 hx2_x0 hxl_x0
  have hk_aC_w7 := blk_next hk_aC_w6 hbn
  have hk_aS_w7 := blk_next hk_aS_w6 hbn
  have hk_w0_w7 := blk_next hk_w0_w6 hbn
  have hk_x0_w7 := blk_next hk_x0_w6 hbn
  have ho_w0_w7 := own_below ho_w0_w6 hbn
  have ho_x0_w7 := own_below ho_x0_w6 hbn
  have hbw_w7 : Below w.heap.size w w7 := (by repeat (first | (with_reducible exact Below.refl _ _) | (with_reducible assumption) | (with_reducible exact (‹_ ∧ _ ∧ Below _ _ _›).2.2) | (with_reducible refine below_drewN ?_ _) | (with_reducible refine Below.drew ?_) | ((with_reducible refine Below.alloc ?_ ?hsd _); (case hsd => (first | exact Nat.le_refl _ | (simp; done) | omega | (simp; omega) | exact (‹_ ∧ _ ∧ Below _ _ _›).2.2.size))) | ((with_reducible refine Below.setCell ?_ ?hsd _); (case hsd => (first | exact Nat.le_refl _ | (simp; done) | omega | (simp; omega) | exact (‹_ ∧ _ ∧ Below _ _ _›).2.2.size))) | ((with_reducible refine Below.trans ?_ (Below.mono (by with_reducible assumption) ?hsd)); (case hsd => (first | exact Nat.le_refl _ | (simp; done) | omega | (simp; omega) | exact (‹_ ∧ _ ∧ Below _ _ _›).2.2.size))) | exact Below.refl _ _ | assumption | exact (‹_ ∧ _ ∧ Below _ _ _›).2.2 | refine below_drewN ?_ _ | refine Below.drew ?_ | refine Below.alloc ?_ (by first | exact Nat.le_refl _ | (simp; done) | omega | (simp; omega) | exact (‹_ ∧ _ ∧ Below _ _ _›).2.2.size) _ | refine Below.setCell ?_ (by first | exact Nat.le_refl _ | (simp; done) | omega | (simp; omega) | exact (‹_ ∧ _ ∧ Below _ _ _›).2.2.size) _ | refine Below.trans ?_ (Below.mono (by assumption) (by first | exact Nat.le_refl _ | (simp; done) | omega | (simp; omega) | exact (‹_ ∧ _ ∧ Below _ _ _›).2.2.size))))
  have hsw_w7 := hbw_w7.size
  clear hk_aC_w6 hk_aS_w6 hk_w0_w6 hk_x0_w6 ho_w0_w6 ho_x0_w6 hbw_w6 hsw_w6 hbn
  have ho_g0_w7 := hon
  clear hon
  have hk_g0_w7 := hkn
  clear hkn
  obtain ⟨hx0_aC, hx1_aC, hx2_aC, hxl_aC⟩ := blk3 hk_aC_w7
  obtain ⟨hx0_aS, hx1_aS, hx2_aS, hx3_aS, hx4_aS, hx5_aS, hx6_aS, hxl_aS⟩ := blk7 hk_aS_w7
  obtain ⟨hx0_w0, hx1_w0, hx2_w0, hxl_w0⟩ := blk3 hk_w0_w7
  obtain ⟨hx0_x0, hx1_x0, hx2_x0, hxl_x0⟩ := blk3 hk_x0_w7
  obtain ⟨hx0_g0, hx1_g0, hx2_g0, hxl_g0⟩ := blk3 hk_g0_w7
  go_wp2_with fail
  refine (l_eqCard_same d f _ _ _ _ _ _ ss2r _ _ _ ho_g0_w7 ho_w0_w7 (by omega) (unhide HRS)).mono ?_
  rintro e w8 ⟨rfl, hb_w8⟩
  clear hx0_aC hx1_aC hx2_aC hxl_aC hx0_aS hx1_aS hx2_aS hx3_aS hx4_aS hx5_aS hx6_aS hxl_aS hx0_w0 hx1_w0 hx2_w0 hxl_w0 hx0_x0 hx1_x0 hx2_x0 hxl_x0 hx0_g0 hx1_g0 hx2_g0 hxl_g0
  have hk_aC_w8 := blk_next hk_aC_w7 hb_w8
  have hk_aS_w8 := blk_next hk_aS_w7 hb_w8
  have hk_w0_w8 := blk_next hk_w0_w7 hb_w8
  have hk_x0_w8 := blk_next hk_x0_w7 hb_w8
  have hk_g0_w8 := blk_next hk_g0_w7 hb_w8
  have ho_w0_w8 := own_below ho_w0_w7 hb_w8
  have ho_x0_w8 := own_below ho_x0_w7 hb_w8
  have ho_g0_w8 := own_below ho_g0_w7 hb_w8
  have hbw_w8 : Below w.heap.size w w8 := (by repeat (first | (with_reducible exact Below.refl _ _) | (with_reducible assumption) | (with_reducible exact (‹_ ∧ _ ∧ Below _ _ _›).2.2) | (with_reducible refine below_drewN ?_ _) | (with_reducible refine Below.drew ?_) | ((with_reducible refine Below.alloc ?_ ?hsd _); (case hsd => (first | exact Nat.le_refl _ | (simp; done) | omega | (simp; omega) | exact (‹_ ∧ _ ∧ Below _ _ _›).2.2.size))) | ((with_reducible refine Below.setCell ?_ ?hsd _); (case hsd => (first | exact Nat.le_refl _ | (simp; done) | omega | (simp; omega) | exact (‹_ ∧ _ ∧ Below _ _ _›).2.2.size))) | ((with_reducible refine Below.trans ?_ (Below.mono (by with_reducible assumption) ?hsd)); (case hsd => (first | exact Nat.le_refl _ | (simp; done) | omega | (simp; omega) | exact (‹_ ∧ _ ∧ Below _ _ _›).2.2.size))) | exact Below.refl _ _ | assumption | exact (‹_ ∧ _ ∧ Below _ _ _›).2.2 | refine below_drewN ?_ _ | refine Below.drew ?_ | refine Below.alloc ?_ (by first | exact Nat.le_refl _ | (simp; done) | omega | (simp; omega) | exact (‹_ ∧ _ ∧ Below _ _ _›).2.2.size) _ | refine Below.setCell ?_ (by first | exact Nat.le_refl _ | (simp; done) | omega | (simp; omega) | exact (‹_ ∧ _ ∧ Below _ _ _›).2.2.size) _ | refine Below.trans ?_ (Below.mono (by assumption) (by first | exact Nat.le_refl _ | (simp; done) | omega | (simp; omega) | exact (‹_ ∧ _ ∧ Below _ _ _›).2.2.size))))
  have hsw_w8 := hbw_w8.size
  clear hk_aC_w7 hk_aS_w7 hk_w0_w7 hk_x0_w7 hk_g0_w7 ho_w0_w7 ho_x0_w7 ho_g0_w7 hbw_w7 hsw_w7 hb_w8
  obtain ⟨hx0_aC, hx1_aC, hx2_aC, hxl_aC⟩ := blk3 hk_aC_w8
  obtain ⟨hx0_aS, hx1_aS, hx2_aS, hx3_aS, hx4_aS, hx5_aS, hx6_aS, hxl_aS⟩ := blk7 hk_aS_w8
  obtain ⟨hx0_w0, hx1_w0, hx2_w0, hxl_w0⟩ := blk3 hk_w0_w8
  obtain ⟨hx0_x0, hx1_x0, hx2_x0, hxl_x0⟩ := blk3 hk_x0_w8
  obtain ⟨hx0_g0, hx1_g0, hx2_g0, hxl_g0⟩ := blk3 hk_g0_w8
  go_wp2_with fail
  have hS_c := hS.below hbw_w8
  have hX_c := strs_of_own ho_x0_w8 (by have := HL.out; omega) hS.sb
  go_region_held3 (fun W => (∀ b o, b < w8.heap.size → W.cell? ⟨b, o, none⟩ = (w8).cell? ⟨b, o, none⟩) ∧ (∀ b o, b < w8.heap.size → W.frozen? ⟨b, o, none⟩ = (w8).frozen? ⟨b, o, none⟩) ∧ Below (w8.heap.size) (w8) W) (exact keep_of (by repeat (first | (with_reducible exact Below.refl _ _) | (with_reducible assumption) | (with_reducible exact (‹_ ∧ _ ∧ Below _ _ _›).2.2) | (with_reducible refine below_drewN ?_ _) | (with_reducible refine Below.drew ?_) | ((with_reducible refine Below.alloc ?_ ?hsd _); (case hsd => (first | exact Nat.le_refl _ | (simp; done) | omega | (simp; omega) | exact (‹_ ∧ _ ∧ Below _ _ _›).2.2.size))) | ((with_reducible refine Below.setCell ?_ ?hsd _); (case hsd => (first | exact Nat.le_refl _ | (simp; done) | omega | (simp; omega) | exact (‹_ ∧ _ ∧ Below _ _ _›).2.2.size))) | ((with_reducible refine Below.trans ?_ (Below.mono (by with_reducible assumption) ?hsd)); (case hsd => (first | exact Nat.le_refl _ | (simp; done) | omega | (simp; omega) | exact (‹_ ∧ _ ∧ Below _ _ _›).2.2.size))) | exact Below.refl _ _ | assumption | exact (‹_ ∧ _ ∧ Below _ _ _›).2.2 | refine below_drewN ?_ _ | refine Below.drew ?_ | refine Below.alloc ?_ (by first | exact Nat.le_refl _ | (simp; done) | omega | (simp; omega) | exact (‹_ ∧ _ ∧ Below _ _ _›).2.2.size) _ | refine Below.setCell ?_ (by first | exact Nat.le_refl _ | (simp; done) | omega | (simp; omega) | exact (‹_ ∧ _ ∧ Below _ _ _›).2.2.size) _ | refine Below.trans ?_ (Below.mono (by assumption) (by first | exact Nat.le_refl _ | (simp; done) | omega | (simp; omega) | exact (‹_ ∧ _ ∧ Below _ _ _›).2.2.size))))) (first | (go_at_call 17; have hq := (‹_ ∧ _ ∧ Below _ _ _›).2.2; refine (l_toCard d f w.heap.size A n c ss _ ?_ ?_).mono ?_; exact hS_c.below (hq.mono hsw_w8); exact Nat.le_trans hsw_w8 hq.size; rintro e wa_w9 ⟨Aa, ca, rfl, hoa, hba⟩) | (go_at_call 20; have hq2 := (‹_ ∧ _ ∧ Below _ _ _›).2.2; refine (l_eqCard_args d f wa_w9.heap.size _ _ _ _ _ _ ss _ ?_ ?_ ?_).mono ?_; exact (hX_c.below hq2).more hq2.size; exact strs_of_own hoa (by have := HL.out; omega) hS.sb; exact Nat.le_refl _; rintro e w9 ⟨rfl, hbz⟩))
  have hz7 : w8.heap.size ≤ wa_w9.heap.size := hba.size
  have hb67 : Below w8.heap.size w8 wa_w9 := (Below.refl _ _).drew.trans hba
  have hb68 : Below w8.heap.size w8 w9 := hb67.trans (hbz.mono hz7)
  clear hS_c hX_c hoa hba hbz hb67 hz7
  clear hx0_aC hx1_aC hx2_aC hxl_aC hx0_aS hx1_aS hx2_aS hx3_aS hx4_aS hx5_aS hx6_aS hxl_aS hx0_w0 hx1_w0 hx2_w0 hxl_w0 hx0_x0 hx1_x0 hx2_x0 hxl_x0 hx0_g0 hx1_g0 hx2_g0 hxl_g0
  have hk_aC_w9 := blk_next hk_aC_w8 hb68
  have hk_aS_w9 := blk_next hk_aS_w8 hb68
  have hk_w0_w9 := blk_next hk_w0_w8 hb68
  have hk_x0_w9 := blk_next hk_x0_w8 hb68
  have hk_g0_w9 := blk_next hk_g0_w8 hb68
  have ho_w0_w9 := own_below ho_w0_w8 hb68
  have ho_x0_w9 := own_below ho_x0_w8 hb68
  have ho_g0_w9 := own_below ho_g0_w8 hb68
  have hbw_w9 : Below w.heap.size w w9 := (by repeat (first | (with_reducible exact Below.refl _ _) | (with_reducible assumption) | (with_reducible exact (‹_ ∧ _ ∧ Below _ _ _›).2.2) | (with_reducible refine below_drewN ?_ _) | (with_reducible refine Below.drew ?_) | ((with_reducible refine Below.alloc ?_ ?hsd _); (case hsd => (first | exact Nat.le_refl _ | (simp; done) | omega | (simp; omega) | exact (‹_ ∧ _ ∧ Below _ _ _›).2.2.size))) | ((with_reducible refine Below.setCell ?_ ?hsd _); (case hsd => (first | exact Nat.le_refl _ | (simp; done) | omega | (simp; omega) | exact (‹_ ∧ _ ∧ Below _ _ _›).2.2.size))) | ((with_reducible refine Below.trans ?_ (Below.mono (by with_reducible assumption) ?hsd)); (case hsd => (first | exact Nat.le_refl _ | (simp; done) | omega | (simp; omega) | exact (‹_ ∧ _ ∧ Below _ _ _›).2.2.size))) | exact Below.refl _ _ | assumption | exact (‹_ ∧ _ ∧ Below _ _ _›).2.2 | refine below_drewN ?_ _ | refine Below.drew ?_ | refine Below.alloc ?_ (by first | exact Nat.le_refl _ | (simp; done) | omega | (simp; omega) | exact (‹_ ∧ _ ∧ Below _ _ _›).2.2.size) _ | refine Below.setCell ?_ (by first | exact Nat.le_refl _ | (simp; done) | omega | (simp; omega) | exact (‹_ ∧ _ ∧ Below _ _ _›).2.2.size) _ | refine Below.trans ?_ (Below.mono (by assumption) (by first | exact Nat.le_refl _ | (simp; done) | omega | (simp; omega) | exact (‹_ ∧ _ ∧ Below _ _ _›).2.2.size))))
  have hsw_w9 := hbw_w9.size
  clear hk_aC_w8 hk_aS_w8 hk_w0_w8 hk_x0_w8 hk_g0_w8 ho_w0_w8 ho_x0_w8 ho_g0_w8 hbw_w8 hsw_w8 hb68
  obtain ⟨hx0_aC, hx1_aC, hx2_aC, hxl_aC⟩ := blk3 hk_aC_w9
  obtain ⟨hx0_aS, hx1_aS, hx2_aS, hx3_aS, hx4_aS, hx5_aS, hx6_aS, hxl_aS⟩ := blk7 hk_aS_w9
  obtain ⟨hx0_w0, hx1_w0, hx2_w0, hxl_w0⟩ := blk3 hk_w0_w9
  obtain ⟨hx0_x0, hx1_x0, hx2_x0, hxl_x0⟩ := blk3 hk_x0_w9
  obtain ⟨hx0_g0, hx1_g0, hx2_g0, hxl_g0⟩ := blk3 hk_g0_w9
  go_wp2_with fail
  refine (l_markCard _ _ _ _ _ _ _ (1) _ ho_x0_w9 (by omega) (by omega) (by have := HL.out; omega)).mono ?_
  rintro e w10 ⟨rfl, hm_w10, hg_w10⟩
  have hbm_w10 := below_marked (B := w.heap.size) ho_x0_w9 hg_w10 (by omega) (by omega)
  clear hx0_aC hx1_aC hx2_aC hxl_aC hx0_aS hx1_aS hx2_aS hx3_aS hx4_aS hx5_aS hx6_aS hxl_aS hx0_w0 hx1_w0 hx2_w0 hxl_w0 hx0_x0 hx1_x0 hx2_x0 hxl_x0 hx0_g0 hx1_g0 hx2_g0 hxl_g0
  have hk_aC_w10 := blk_marked hk_aC_w9 hg_w10 ho_x0_w9 (by decide)
  have hk_aS_w10 := blk_marked hk_aS_w9 hg_w10 ho_x0_w9 (by decide)
  have hk_w0_w10 := blk_marked hk_w0_w9 hg_w10 ho_x0_w9 (by decide)
  have hk_x0_w10 := blk_marked hk_x0_w9 hg_w10 ho_x0_w9 (by decide)
  have hk_g0_w10 := blk_marked hk_g0_w9 hg_w10 ho_x0_w9 (by decide)
  have ho_w0_w10 := own_elder ho_w0_w9 (unhide hlt_w0_x0) (geb ho_x0_w9) hg_w10
  have ho_g0_w10 := own_newer ho_g0_w9 (unhide hlt_x0_g0) hg_w10
  have hbw_w10 : Below w.heap.size w w10 := (by repeat (first | (with_reducible exact Below.refl _ _) | (with_reducible assumption) | (with_reducible exact (‹_ ∧ _ ∧ Below _ _ _›).2.2) | (with_reducible refine below_drewN ?_ _) | (with_reducible refine Below.drew ?_) | ((with_reducible refine Below.alloc ?_ ?hsd _); (case hsd => (first | exact Nat.le_refl _ | (simp; done) | omega | (simp; omega) | exact (‹_ ∧ _ ∧ Below _ _ _›).2.2.size))) | ((with_reducible refine Below.setCell ?_ ?hsd _); (case hsd => (first | exact Nat.le_refl _ | (simp; done) | omega | (simp; omega) | exact (‹_ ∧ _ ∧ Below _ _ _›).2.2.size))) | ((with_reducible refine Below.trans ?_ (Below.mono (by with_reducible assumption) ?hsd)); (case hsd => (first | exact Nat.le_refl _ | (simp; done) | omega | (simp; omega) | exact (‹_ ∧ _ ∧ Below _ _ _›).2.2.size))) | exact Below.refl _ _ | assumption | exact (‹_ ∧ _ ∧ Below _ _ _›).2.2 | refine below_drewN ?_ _ | refine Below.drew ?_ | refine Below.alloc ?_ (by first | exact Nat.le_refl _ | (simp; done) | omega | (simp; omega) | exact (‹_ ∧ _ ∧ Below _ _ _›).2.2.size) _ | refine Below.setCell ?_ (by first | exact Nat.le_refl _ | (simp; done) | omega | (simp; omega) | exact (‹_ ∧ _ ∧ Below _ _ _›).2.2.size) _ | refine Below.trans ?_ (Below.mono (by assumption) (by first | exact Nat.le_refl _ | (simp; done) | omega | (simp; omega) | exact (‹_ ∧ _ ∧ Below _ _ _›).2.2.size))))
  have hsw_w10 := hbw_w10.size
  clear hk_aC_w9 hk_aS_w9 hk_w0_w9 hk_x0_w9 hk_g0_w9 ho_w0_w9 ho_x0_w9 ho_g0_w9 hbw_w9 hsw_w9 hbm_w10
  clear hm_w10
  obtain ⟨hx0_aC, hx1_aC, hx2_aC, hxl_aC⟩ := blk3 hk_aC_w10
  obtain ⟨hx0_aS, hx1_aS, hx2_aS, hx3_aS, hx4_aS, hx5_aS, hx6_aS, hxl_aS⟩ := blk7 hk_aS_w10
  obtain ⟨hx0_w0, hx1_w0, hx2_w0, hxl_w0⟩ := blk3 hk_w0_w10
  obtain ⟨hx0_x0, hx1_x0, hx2_x0, hxl_x0⟩ := blk3 hk_x0_w10
  obtain ⟨hx0_g0, hx1_g0, hx2_g0, hxl_g0⟩ := blk3 hk_g0_w10
  go_wp2_with fail
  refine (l_eqCard_same d f _ _ _ _ _ _ ss2r _ _ _ ho_g0_w10 ho_w0_w10 (by omega) (unhide HRS)).mono ?_
  rintro e w11 ⟨rfl, hb_w11⟩
  clear hx0_aC hx1_aC hx2_aC hxl_aC hx0_aS hx1_aS hx2_aS hx3_aS hx4_aS hx5_aS hx6_aS hxl_aS hx0_w0 hx1_w0 hx2_w0 hxl_w0 hx0_x0 hx1_x0 hx2_x0 hxl_x0 hx0_g0 hx1_g0 hx2_g0 hxl_g0
  have hk_aC_w11 := blk_next hk_aC_w10 hb_w11
  have hk_aS_w11 := blk_next hk_aS_w10 hb_w11
  have hk_w0_w11 := blk_next hk_w0_w10 hb_w11
  have hk_x0_w11 := blk_next hk_x0_w10 hb_w11
  have hk_g0_w11 := blk_next hk_g0_w10 hb_w11
  have ho_w0_w11 := own_below ho_w0_w10 hb_w11
  have ho_g0_w11 := own_below ho_g0_w10 hb_w11
  have hbw_w11 : Below w.heap.size w w11 := (by repeat (first | (with_reducible exact Below.refl _ _) | (with_reducible assumption) | (with_reducible exact (‹_ ∧ _ ∧ Below _ _ _›).2.2) | (with_reducible refine below_drewN ?_ _) | (with_reducible refine Below.drew ?_) | ((with_reducible refine Below.alloc ?_ ?hsd _); (case hsd => (first | exact Nat.le_refl _ | (simp; done) | omega | (simp; omega) | exact (‹_ ∧ _ ∧ Below _ _ _›).2.2.size))) | ((with_reducible refine Below.setCell ?_ ?hsd _); (case hsd => (first | exact Nat.le_refl _ | (simp; done) | omega | (simp; omega) | exact (‹_ ∧ _ ∧ Below _ _ _›).2.2.size))) | ((with_reducible refine Below.trans ?_ (Below.mono (by with_reducible assumption) ?hsd)); (case hsd => (first | exact Nat.le_refl _ | (simp; done) | omega | (simp; omega) | exact (‹_ ∧ _ ∧ Below _ _ _›).2.2.size))) | exact Below.refl _ _ | assumption | exact (‹_ ∧ _ ∧ Below _ _ _›).2.2 | refine below_drewN ?_ _ | refine Below.drew ?_ | refine Below.alloc ?_ (by first | exact Nat.le_refl _ | (simp; done) | omega | (simp; omega) | exact (‹_ ∧ _ ∧ Below _ _ _›).2.2.size) _ | refine Below.setCell ?_ (by first | exact Nat.le_refl _ | (simp; done) | omega | (simp; omega) | exact (‹_ ∧ _ ∧ Below _ _ _›).2.2.size) _ | refine Below.trans ?_ (Below.mono (by assumption) (by first | exact Nat.le_refl _ | (simp; done) | omega | (simp; omega) | exact (‹_ ∧ _ ∧ Below _ _ _›).2.2.size))))
  have hsw_w11 := hbw_w11.size
  clear hk_aC_w10 hk_aS_w10 hk_w0_w10 hk_x0_w10 hk_g0_w10 ho_w0_w10 ho_g0_w10 hbw_w10 hsw_w10 hb_w11
  obtain ⟨hx0_aC, hx1_aC, hx2_aC, hxl_aC⟩ := blk3 hk_aC_w11
  obtain ⟨hx0_aS, hx1_aS, hx2_aS, hx3_aS, hx4_aS, hx5_aS, hx6_aS, hxl_aS⟩ := blk7 hk_aS_w11
  obtain ⟨hx0_w0, hx1_w0, hx2_w0, hxl_w0⟩ := blk3 hk_w0_w11
  obtain ⟨hx0_x0, hx1_x0, hx2_x0, hxl_x0⟩ := blk3 hk_x0_w11
  obtain ⟨hx0_g0, hx1_g0, hx2_g0, hxl_g0⟩ := blk3 hk_g0_w11
  go_wp2_with fail
  refine (l_markCard _ _ _ _ _ _ _ (1) _ ho_g0_w11 (by omega) (by omega) (by omega)).mono ?_
  rintro e w12 ⟨rfl, hm_w12, hg_w12⟩
  have hbm_w12 := below_marked (B := w.heap.size) ho_g0_w11 hg_w12 (by omega) (by omega)
  clear hx0_aC hx1_aC hx2_aC hxl_aC hx0_aS hx1_aS hx2_aS hx3_aS hx4_aS hx5_aS hx6_aS hxl_aS hx0_w0 hx1_w0 hx2_w0 hxl_w0 hx0_x0 hx1_x0 hx2_x0 hxl_x0 hx0_g0 hx1_g0 hx2_g0 hxl_g0
  have hk_aC_w12 := blk_marked hk_aC_w11 hg_w12 ho_g0_w11 (by decide)
  have hk_aS_w12 := blk_marked hk_aS_w11 hg_w12 ho_g0_w11 (by decide)
  have hk_w0_w12 := blk_marked hk_w0_w11 hg_w12 ho_g0_w11 (by decide)
  have hk_x0_w12 := blk_marked hk_x0_w11 hg_w12 ho_g0_w11 (by decide)
  have hk_g0_w12 := blk_marked hk_g0_w11 hg_w12 ho_g0_w11 (by decide)
  have ho_w0_w12 := own_elder ho_w0_w11 (unhide hlt_w0_g0) (geb ho_g0_w11) hg_w12
  have hbw_w12 : Below w.heap.size w w12 := (by repeat (first | (with_reducible exact Below.refl _ _) | (with_reducible assumption) | (with_reducible exact (‹_ ∧ _ ∧ Below _ _ _›).2.2) | (with_reducible refine below_drewN ?_ _) | (with_reducible refine Below.drew ?_) | ((with_reducible refine Below.alloc ?_ ?hsd _); (case hsd => (first | exact Nat.le_refl _ | (simp; done) | omega | (simp; omega) | exact (‹_ ∧ _ ∧ Below _ _ _›).2.2.size))) | ((with_reducible refine Below.setCell ?_ ?hsd _); (case hsd => (first | exact Nat.le_refl _ | (simp; done) | omega | (simp; omega) | exact (‹_ ∧ _ ∧ Below _ _ _›).2.2.size))) | ((with_reducible refine Below.trans ?_ (Below.mono (by with_reducible assumption) ?hsd)); (case hsd => (first | exact Nat.le_refl _ | (simp; done) | omega | (simp; omega) | exact (‹_ ∧ _ ∧ Below _ _ _›).2.2.size))) | exact Below.refl _ _ | assumption | exact (‹_ ∧ _ ∧ Below _ _ _›).2.2 | refine below_drewN ?_ _ | refine Below.drew ?_ | refine Below.alloc ?_ (by first | exact Nat.le_refl _ | (simp; done) | omega | (simp; omega) | exact (‹_ ∧ _ ∧ Below _ _ _›).2.2.size) _ | refine Below.setCell ?_ (by first | exact Nat.le_refl _ | (simp; done) | omega | (simp; omega) | exact (‹_ ∧ _ ∧ Below _ _ _›).2.2.size) _ | refine Below.trans ?_ (Below.mono (by assumption) (by first | exact Nat.le_refl _ | (simp; done) | omega | (simp; omega) | exact (‹_ ∧ _ ∧ Below _ _ _›).2.2.size))))
  have hsw_w12 := hbw_w12.size
  clear hk_aC_w11 hk_aS_w11 hk_w0_w11 hk_x0_w11 hk_g0_w11 ho_w0_w11 ho_g0_w11 hbw_w11 hsw_w11 hbm_w12
  obtain ⟨hx0_aC, hx1_aC, hx2_aC, hxl_aC⟩ := blk3 hk_aC_w12
  obtain ⟨hx0_aS, hx1_aS, hx2_aS, hx3_aS, hx4_aS, hx5_aS, hx6_aS, hxl_aS⟩ := blk7 hk_aS_w12
  obtain ⟨hx0_w0, hx1_w0, hx2_w0, hxl_w0⟩ := blk3 hk_w0_w12
  obtain ⟨hx0_x0, hx1_x0, hx2_x0, hxl_x0⟩ := blk3 hk_x0_w12
  obtain ⟨hx0_g0, hx1_g0, hx2_g0, hxl_g0⟩ := blk3 hk_g0_w12
  go_wp2_with fail
  refine (l_heldCard _ _ w12.heap.size _ _ _ 1 _ (Reads.of_own hm_w12) (Nat.le_refl _) (by omega) (by omega) (by omega)).mono ?_
  rintro e w13 ⟨rfl, hb_w13⟩
  clear hx0_aC hx1_aC hx2_aC hxl_aC hx0_aS hx1_aS hx2_aS hx3_aS hx4_aS hx5_aS hx6_aS hxl_aS hx0_w0 hx1_w0 hx2_w0 hxl_w0 hx0_x0 hx1_x0 hx2_x0 hxl_x0 hx0_g0 hx1_g0 hx2_g0 hxl_g0
  have hk_aC_w13 := blk_next hk_aC_w12 hb_w13
  have hk_aS_w13 := blk_next hk_aS_w12 hb_w13
  have hk_w0_w13 := blk_next hk_w0_w12 hb_w13
  have hk_x0_w13 := blk_next hk_x0_w12 hb_w13
  have hk_g0_w13 := blk_next hk_g0_w12 hb_w13
  have ho_w0_w13 := own_below ho_w0_w12 hb_w13
  have ho_g0_w13 := own_below hm_w12 hb_w13
  have hbw_w13 : Below w.heap.size w w13 := (by repeat (first | (with_reducible exact Below.refl _ _) | (with_reducible assumption) | (with_reducible exact (‹_ ∧ _ ∧ Below _ _ _›).2.2) | (with_reducible refine below_drewN ?_ _) | (with_reducible refine Below.drew ?_) | ((with_reducible refine Below.alloc ?_ ?hsd _); (case hsd => (first | exact Nat.le_refl _ | (simp; done) | omega | (simp; omega) | exact (‹_ ∧ _ ∧ Below _ _ _›).2.2.size))) | ((with_reducible refine Below.setCell ?_ ?hsd _); (case hsd => (first | exact Nat.le_refl _ | (simp; done) | omega | (simp; omega) | exact (‹_ ∧ _ ∧ Below _ _ _›).2.2.size))) | ((with_reducible refine Below.trans ?_ (Below.mono (by with_reducible assumption) ?hsd)); (case hsd => (first | exact Nat.le_refl _ | (simp; done) | omega | (simp; omega) | exact (‹_ ∧ _ ∧ Below _ _ _›).2.2.size))) | exact Below.refl _ _ | assumption | exact (‹_ ∧ _ ∧ Below _ _ _›).2.2 | refine below_drewN ?_ _ | refine Below.drew ?_ | refine Below.alloc ?_ (by first | exact Nat.le_refl _ | (simp; done) | omega | (simp; omega) | exact (‹_ ∧ _ ∧ Below _ _ _›).2.2.size) _ | refine Below.setCell ?_ (by first | exact Nat.le_refl _ | (simp; done) | omega | (simp; omega) | exact (‹_ ∧ _ ∧ Below _ _ _›).2.2.size) _ | refine Below.trans ?_ (Below.mono (by assumption) (by first | exact Nat.le_refl _ | (simp; done) | omega | (simp; omega) | exact (‹_ ∧ _ ∧ Below _ _ _›).2.2.size))))
  have hsw_w13 := hbw_w13.size
  clear hk_aC_w12 hk_aS_w12 hk_w0_w12 hk_x0_w12 hk_g0_w12 ho_w0_w12 hm_w12 hbw_w12 hsw_w12 hb_w13
  obtain ⟨hx0_aC, hx1_aC, hx2_aC, hxl_aC⟩ := blk3 hk_aC_w13
  obtain ⟨hx0_aS, hx1_aS, hx2_aS, hx3_aS, hx4_aS, hx5_aS, hx6_aS, hxl_aS⟩ := blk7 hk_aS_w13
  obtain ⟨hx0_w0, hx1_w0, hx2_w0, hxl_w0⟩ := blk3 hk_w0_w13
  obtain ⟨hx0_x0, hx1_x0, hx2_x0, hxl_x0⟩ := blk3 hk_x0_w13
  obtain ⟨hx0_g0, hx1_g0, hx2_g0, hxl_g0⟩ := blk3 hk_g0_w13
  go_upto_region 27 with fail
  have hS_c := hS.below hbw_w13
  go_cut [14, 15] (fun s14 s15 wx => ∃ (g3 : Nat) (A3 : Option Addr) (c3 : Nat), s14 = .pointer (some ⟨g3, 0, none⟩) ∧ s15 = .bool rb ∧ wx.heap[g3]? = some (.cells #[.int .i64 d, .int .i64 f, .slice A3 ss2r.length c3] 28 (0, 0)) ∧ wx.ownsRow w13.heap.size 9 1 (.slice A3 ss2r.length c3) ss2r.length (ss2r.map Value.string) ∧ Below w13.heap.size w13 wx)
  case first =>
    go_region_held3 (fun W => (∀ b o, b < w13.heap.size → W.cell? ⟨b, o, none⟩ = (w13).cell? ⟨b, o, none⟩) ∧ (∀ b o, b < w13.heap.size → W.frozen? ⟨b, o, none⟩ = (w13).frozen? ⟨b, o, none⟩) ∧ Below (w13.heap.size) (w13) W) (exact keep_of (by repeat (first | (with_reducible exact Below.refl _ _) | (with_reducible assumption) | (with_reducible exact (‹_ ∧ _ ∧ Below _ _ _›).2.2) | (with_reducible refine below_drewN ?_ _) | (with_reducible refine Below.drew ?_) | ((with_reducible refine Below.alloc ?_ ?hsd _); (case hsd => (first | exact Nat.le_refl _ | (simp; done) | omega | (simp; omega) | exact (‹_ ∧ _ ∧ Below _ _ _›).2.2.size))) | ((with_reducible refine Below.setCell ?_ ?hsd _); (case hsd => (first | exact Nat.le_refl _ | (simp; done) | omega | (simp; omega) | exact (‹_ ∧ _ ∧ Below _ _ _›).2.2.size))) | ((with_reducible refine Below.trans ?_ (Below.mono (by with_reducible assumption) ?hsd)); (case hsd => (first | exact Nat.le_refl _ | (simp; done) | omega | (simp; omega) | exact (‹_ ∧ _ ∧ Below _ _ _›).2.2.size))) | exact Below.refl _ _ | assumption | exact (‹_ ∧ _ ∧ Below _ _ _›).2.2 | refine below_drewN ?_ _ | refine Below.drew ?_ | refine Below.alloc ?_ (by first | exact Nat.le_refl _ | (simp; done) | omega | (simp; omega) | exact (‹_ ∧ _ ∧ Below _ _ _›).2.2.size) _ | refine Below.setCell ?_ (by first | exact Nat.le_refl _ | (simp; done) | omega | (simp; omega) | exact (‹_ ∧ _ ∧ Below _ _ _›).2.2.size) _ | refine Below.trans ?_ (Below.mono (by assumption) (by first | exact Nat.le_refl _ | (simp; done) | omega | (simp; omega) | exact (‹_ ∧ _ ∧ Below _ _ _›).2.2.size))))) (first | (go_at_call 17; have hq := (‹_ ∧ _ ∧ Below _ _ _›).2.2; refine (l_toCard d f w.heap.size A n c ss _ ?_ ?_).mono ?_; exact hS_c.below (hq.mono hsw_w13); exact Nat.le_trans hsw_w13 hq.size; rintro e wt3_0 ⟨At3_0, ct3_0, rfl, hor3_0, hbt3_0⟩; (have hot3_0 := own_base (base' := w13.heap.size) hor3_0 (by first | exact hq.size | exact Nat.le_refl _)); clear hor3_0; have hqs3_0 := hq.size; have hbs3_0 := hbt3_0.size; (try simp at hqs3_0); (try simp at hbs3_0); obtain ⟨hcb3_0, hfb3_0⟩ := bcell hbt3_0; (try (have hzl_w13_3_0 : w13.heap.size < wt3_0.heap.size := (by omega)))) | (go_at_call 69; have hq := (‹_ ∧ _ ∧ Below _ _ _›).2.2; refine (l_toStep K F L T I bs as_ _).mono ?_; rintro e wt3_1 ⟨rfl, hbt3_1⟩; have hqs3_1 := hq.size; have hbs3_1 := hbt3_1.size; (try simp at hqs3_1); (try simp at hbs3_1); (have hot3_0 : wt3_1.ownsRow w13.heap.size 9 1 (.slice At3_0 ss.length ct3_0) ss.length (ss.map Value.string) := (by first | exact own_below hot3_0 hbt3_1 | exact own_below (hot3_0.alloc _) hbt3_1)); obtain ⟨hcb3_1, hfb3_1⟩ := bcell hbt3_1; (try (have hzl_w13_3_1 : w13.heap.size < wt3_1.heap.size := (by omega))); (try (have hzl_wt3_0_3_1 : wt3_0.heap.size < wt3_1.heap.size := (by omega)))) | (go_at_call 72; have hqf := (‹_ ∧ _ ∧ Below _ _ _›).2.2; refine (unhide HIMPL _ _ _ (by first | exact strs_of_own hot3_0 (by have := HL.out; omega) hS.sb | exact strs_of_own (hot3_0.alloc _) (by have := HL.out; omega) hS.sb) (own_cap hot3_0)).mono ?_; rintro e wf3 ⟨Af3, cf3, rfl, horf3, hbf3⟩; (have hof3 := own_base (base' := w13.heap.size) horf3 (by first | exact hqf.size | exact Nat.le_refl _)); clear horf3; have hqsf := hqf.size; have hbsf := hbf3.size; (try simp at hqsf); (try simp at hbsf); obtain ⟨hcbf3, hfbf3⟩ := bcell hbf3; (try (have hzl_w13_f : w13.heap.size < wf3.heap.size := (by omega))); (try (have hzl_wt3_0_f : wt3_0.heap.size < wf3.heap.size := (by omega))); (try (have hzl_wt3_1_f : wt3_1.heap.size < wf3.heap.size := (by omega)))))
    all_goals (go_wp2_with fail)
    all_goals (go_meet)
    all_goals (
      refine ⟨_, Af3, cf3, rfl, rfl, ?_, ?_, ?_⟩
      first
        | exact blk_new _ _
        | exact blk3_set (by first | exact blk_next (blk_new _ _) hbf3 | exact blk_next (blk_next (blk_new _ _) hbt3_1) hbf3 | exact blk_next (blk_next (blk_next (blk_new _ _) hbt3_0) hbt3_1) hbf3 | exact blk_next (blk_next (blk_next (blk_drew (blk_new _ _)) hbt3_0) hbt3_1) hbf3) _ _ _
      first
        | exact hof3.alloc _
        | exact own3_set hof3 (by first | exact blk_next (blk_new _ _) hbf3 | exact blk_next (blk_next (blk_new _ _) hbt3_1) hbf3 | exact blk_next (blk_next (blk_next (blk_new _ _) hbt3_0) hbt3_1) hbf3 | exact blk_next (blk_next (blk_next (blk_drew (blk_new _ _)) hbt3_0) hbt3_1) hbf3) (by decide) _ _ _
      exact (by repeat (first | (with_reducible exact Below.refl _ _) | (with_reducible assumption) | (with_reducible exact (‹_ ∧ _ ∧ Below _ _ _›).2.2) | (with_reducible refine below_drewN ?_ _) | (with_reducible refine Below.drew ?_) | ((with_reducible refine Below.alloc ?_ ?hsd _); (case hsd => (first | exact Nat.le_refl _ | (simp; done) | omega | (simp; omega) | exact (‹_ ∧ _ ∧ Below _ _ _›).2.2.size))) | ((with_reducible refine Below.setCell ?_ ?hsd _); (case hsd => (first | exact Nat.le_refl _ | (simp; done) | omega | (simp; omega) | exact (‹_ ∧ _ ∧ Below _ _ _›).2.2.size))) | ((with_reducible refine Below.trans ?_ (Below.mono (by with_reducible assumption) ?hsd)); (case hsd => (first | exact Nat.le_refl _ | (simp; done) | omega | (simp; omega) | exact (‹_ ∧ _ ∧ Below _ _ _›).2.2.size))) | exact Below.refl _ _ | assumption | exact (‹_ ∧ _ ∧ Below _ _ _›).2.2 | refine below_drewN ?_ _ | refine Below.drew ?_ | refine Below.alloc ?_ (by first | exact Nat.le_refl _ | (simp; done) | omega | (simp; omega) | exact (‹_ ∧ _ ∧ Below _ _ _›).2.2.size) _ | refine Below.setCell ?_ (by first | exact Nat.le_refl _ | (simp; done) | omega | (simp; omega) | exact (‹_ ∧ _ ∧ Below _ _ _›).2.2.size) _ | refine Below.trans ?_ (Below.mono (by assumption) (by first | exact Nat.le_refl _ | (simp; done) | omega | (simp; omega) | exact (‹_ ∧ _ ∧ Below _ _ _›).2.2.size)))))
  obtain ⟨g3, A3, c3, rfl, rfl, hkn, hon, hbn⟩ := hcut
  obtain ⟨w14, hwc⟩ : ∃ W, W = wc := ⟨_, rfl⟩
  subst hwc
  have hbase_h0 : w.heap.size ≤ w13.heap.size := hsw_w13
  have hlt_w0_h0 := hide (ltb ho_w0_w13)
  have hlt_g0_h0 := hide (ltb ho_g0_w13)
  clear hx0_aC hx1_aC hx2_aC hxl_aC hx0_aS hx1_aS hx2_aS hx3_aS hx4_aS hx5_aS hx6_aS hxl_aS hx0_w0 hx1_w0 hx2_w0 hxl_w0 hx0_x0 hx1_x0 hx2_x0 hxl_x0 hx0_g0 hx1_g0 hx2_g0 hxl_g0
  have hk_aC_w14 := blk_next hk_aC_w13 hbn
  have hk_aS_w14 := blk_next hk_aS_w13 hbn
  have hk_w0_w14 := blk_next hk_w0_w13 hbn
  have hk_x0_w14 := blk_next hk_x0_w13 hbn
  have hk_g0_w14 := blk_next hk_g0_w13 hbn
  have ho_w0_w14 := own_below ho_w0_w13 hbn
  have ho_g0_w14 := own_below ho_g0_w13 hbn
  have hbw_w14 : Below w.heap.size w w14 := (by repeat (first | (with_reducible exact Below.refl _ _) | (with_reducible assumption) | (with_reducible exact (‹_ ∧ _ ∧ Below _ _ _›).2.2) | (with_reducible refine below_drewN ?_ _) | (with_reducible refine Below.drew ?_) | ((with_reducible refine Below.alloc ?_ ?hsd _); (case hsd => (first | exact Nat.le_refl _ | (simp; done) | omega | (simp; omega) | exact (‹_ ∧ _ ∧ Below _ _ _›).2.2.size))) | ((with_reducible refine Below.setCell ?_ ?hsd _); (case hsd => (first | exact Nat.le_refl _ | (simp; done) | omega | (simp; omega) | exact (‹_ ∧ _ ∧ Below _ _ _›).2.2.size))) | ((with_reducible refine Below.trans ?_ (Below.mono (by with_reducible assumption) ?hsd)); (case hsd => (first | exact Nat.le_refl _ | (simp; done) | omega | (simp; omega) | exact (‹_ ∧ _ ∧ Below _ _ _›).2.2.size))) | exact Below.refl _ _ | assumption | exact (‹_ ∧ _ ∧ Below _ _ _›).2.2 | refine below_drewN ?_ _ | refine Below.drew ?_ | refine Below.alloc ?_ (by first | exact Nat.le_refl _ | (simp; done) | omega | (simp; omega) | exact (‹_ ∧ _ ∧ Below _ _ _›).2.2.size) _ | refine Below.setCell ?_ (by first | exact Nat.le_refl _ | (simp; done) | omega | (simp; omega) | exact (‹_ ∧ _ ∧ Below _ _ _›).2.2.size) _ | refine Below.trans ?_ (Below.mono (by assumption) (by first | exact Nat.le_refl _ | (simp; done) | omega | (simp; omega) | exact (‹_ ∧ _ ∧ Below _ _ _›).2.2.size))))
  have hsw_w14 := hbw_w14.size
  clear hk_aC_w13 hk_aS_w13 hk_w0_w13 hk_x0_w13 hk_g0_w13 ho_w0_w13 ho_g0_w13 hbw_w13 hsw_w13 hbn
  have ho_h0_w14 := hon
  clear hon
  have hk_h0_w14 := hkn
  clear hkn
  clear hS_c
  obtain ⟨hx0_aC, hx1_aC, hx2_aC, hxl_aC⟩ := blk3 hk_aC_w14
  obtain ⟨hx0_aS, hx1_aS, hx2_aS, hx3_aS, hx4_aS, hx5_aS, hx6_aS, hxl_aS⟩ := blk7 hk_aS_w14
  obtain ⟨hx0_w0, hx1_w0, hx2_w0, hxl_w0⟩ := blk3 hk_w0_w14
  obtain ⟨hx0_x0, hx1_x0, hx2_x0, hxl_x0⟩ := blk3 hk_x0_w14
  obtain ⟨hx0_g0, hx1_g0, hx2_g0, hxl_g0⟩ := blk3 hk_g0_w14
  obtain ⟨hx0_h0, hx1_h0, hx2_h0, hxl_h0⟩ := blk3 hk_h0_w14
  go_wp2_with fail
  refine (l_eqCard_same d f _ _ _ _ _ _ ss2r _ _ _ ho_h0_w14 ho_w0_w14 (by omega) (unhide HRS)).mono ?_
  rintro e w15 ⟨rfl, hb_w15⟩
  clear hx0_aC hx1_aC hx2_aC hxl_aC hx0_aS hx1_aS hx2_aS hx3_aS hx4_aS hx5_aS hx6_aS hxl_aS hx0_w0 hx1_w0 hx2_w0 hxl_w0 hx0_x0 hx1_x0 hx2_x0 hxl_x0 hx0_g0 hx1_g0 hx2_g0 hxl_g0 hx0_h0 hx1_h0 hx2_h0 hxl_h0
  have hk_aC_w15 := blk_next hk_aC_w14 hb_w15
  have hk_aS_w15 := blk_next hk_aS_w14 hb_w15
  have hk_w0_w15 := blk_next hk_w0_w14 hb_w15
  have hk_x0_w15 := blk_next hk_x0_w14 hb_w15
  have hk_g0_w15 := blk_next hk_g0_w14 hb_w15
  have hk_h0_w15 := blk_next hk_h0_w14 hb_w15
  have ho_w0_w15 := own_below ho_w0_w14 hb_w15
  have ho_g0_w15 := own_below ho_g0_w14 hb_w15
  have ho_h0_w15 := own_below ho_h0_w14 hb_w15
  have hbw_w15 : Below w.heap.size w w15 := (by repeat (first | (with_reducible exact Below.refl _ _) | (with_reducible assumption) | (with_reducible exact (‹_ ∧ _ ∧ Below _ _ _›).2.2) | (with_reducible refine below_drewN ?_ _) | (with_reducible refine Below.drew ?_) | ((with_reducible refine Below.alloc ?_ ?hsd _); (case hsd => (first | exact Nat.le_refl _ | (simp; done) | omega | (simp; omega) | exact (‹_ ∧ _ ∧ Below _ _ _›).2.2.size))) | ((with_reducible refine Below.setCell ?_ ?hsd _); (case hsd => (first | exact Nat.le_refl _ | (simp; done) | omega | (simp; omega) | exact (‹_ ∧ _ ∧ Below _ _ _›).2.2.size))) | ((with_reducible refine Below.trans ?_ (Below.mono (by with_reducible assumption) ?hsd)); (case hsd => (first | exact Nat.le_refl _ | (simp; done) | omega | (simp; omega) | exact (‹_ ∧ _ ∧ Below _ _ _›).2.2.size))) | exact Below.refl _ _ | assumption | exact (‹_ ∧ _ ∧ Below _ _ _›).2.2 | refine below_drewN ?_ _ | refine Below.drew ?_ | refine Below.alloc ?_ (by first | exact Nat.le_refl _ | (simp; done) | omega | (simp; omega) | exact (‹_ ∧ _ ∧ Below _ _ _›).2.2.size) _ | refine Below.setCell ?_ (by first | exact Nat.le_refl _ | (simp; done) | omega | (simp; omega) | exact (‹_ ∧ _ ∧ Below _ _ _›).2.2.size) _ | refine Below.trans ?_ (Below.mono (by assumption) (by first | exact Nat.le_refl _ | (simp; done) | omega | (simp; omega) | exact (‹_ ∧ _ ∧ Below _ _ _›).2.2.size))))
  have hsw_w15 := hbw_w15.size
  clear hk_aC_w14 hk_aS_w14 hk_w0_w14 hk_x0_w14 hk_g0_w14 hk_h0_w14 ho_w0_w14 ho_g0_w14 ho_h0_w14 hbw_w14 hsw_w14 hb_w15
  obtain ⟨hx0_aC, hx1_aC, hx2_aC, hxl_aC⟩ := blk3 hk_aC_w15
  obtain ⟨hx0_aS, hx1_aS, hx2_aS, hx3_aS, hx4_aS, hx5_aS, hx6_aS, hxl_aS⟩ := blk7 hk_aS_w15
  obtain ⟨hx0_w0, hx1_w0, hx2_w0, hxl_w0⟩ := blk3 hk_w0_w15
  obtain ⟨hx0_x0, hx1_x0, hx2_x0, hxl_x0⟩ := blk3 hk_x0_w15
  obtain ⟨hx0_g0, hx1_g0, hx2_g0, hxl_g0⟩ := blk3 hk_g0_w15
  obtain ⟨hx0_h0, hx1_h0, hx2_h0, hxl_h0⟩ := blk3 hk_h0_w15
  go_wp2_with fail
  refine (l_heldCard _ _ w15.heap.size _ _ _ 1 _ (Reads.of_own ho_g0_w15) (Nat.le_refl _) (by omega) (by omega) (by omega)).mono ?_
  rintro e w16 ⟨rfl, hb_w16⟩
  clear hx0_aC hx1_aC hx2_aC hxl_aC hx0_aS hx1_aS hx2_aS hx3_aS hx4_aS hx5_aS hx6_aS hxl_aS hx0_w0 hx1_w0 hx2_w0 hxl_w0 hx0_x0 hx1_x0 hx2_x0 hxl_x0 hx0_g0 hx1_g0 hx2_g0 hxl_g0 hx0_h0 hx1_h0 hx2_h0 hxl_h0
  have hk_aC_w16 := blk_next hk_aC_w15 hb_w16
  have hk_aS_w16 := blk_next hk_aS_w15 hb_w16
  have hk_w0_w16 := blk_next hk_w0_w15 hb_w16
  have hk_x0_w16 := blk_next hk_x0_w15 hb_w16
  have hk_g0_w16 := blk_next hk_g0_w15 hb_w16
  have hk_h0_w16 := blk_next hk_h0_w15 hb_w16
  have ho_w0_w16 := own_below ho_w0_w15 hb_w16
  have ho_g0_w16 := own_below ho_g0_w15 hb_w16
  have ho_h0_w16 := own_below ho_h0_w15 hb_w16
  have hbw_w16 : Below w.heap.size w w16 := (by repeat (first | (with_reducible exact Below.refl _ _) | (with_reducible assumption) | (with_reducible exact (‹_ ∧ _ ∧ Below _ _ _›).2.2) | (with_reducible refine below_drewN ?_ _) | (with_reducible refine Below.drew ?_) | ((with_reducible refine Below.alloc ?_ ?hsd _); (case hsd => (first | exact Nat.le_refl _ | (simp; done) | omega | (simp; omega) | exact (‹_ ∧ _ ∧ Below _ _ _›).2.2.size))) | ((with_reducible refine Below.setCell ?_ ?hsd _); (case hsd => (first | exact Nat.le_refl _ | (simp; done) | omega | (simp; omega) | exact (‹_ ∧ _ ∧ Below _ _ _›).2.2.size))) | ((with_reducible refine Below.trans ?_ (Below.mono (by with_reducible assumption) ?hsd)); (case hsd => (first | exact Nat.le_refl _ | (simp; done) | omega | (simp; omega) | exact (‹_ ∧ _ ∧ Below _ _ _›).2.2.size))) | exact Below.refl _ _ | assumption | exact (‹_ ∧ _ ∧ Below _ _ _›).2.2 | refine below_drewN ?_ _ | refine Below.drew ?_ | refine Below.alloc ?_ (by first | exact Nat.le_refl _ | (simp; done) | omega | (simp; omega) | exact (‹_ ∧ _ ∧ Below _ _ _›).2.2.size) _ | refine Below.setCell ?_ (by first | exact Nat.le_refl _ | (simp; done) | omega | (simp; omega) | exact (‹_ ∧ _ ∧ Below _ _ _›).2.2.size) _ | refine Below.trans ?_ (Below.mono (by assumption) (by first | exact Nat.le_refl _ | (simp; done) | omega | (simp; omega) | exact (‹_ ∧ _ ∧ Below _ _ _›).2.2.size))))
  have hsw_w16 := hbw_w16.size
  clear hk_aC_w15 hk_aS_w15 hk_w0_w15 hk_x0_w15 hk_g0_w15 hk_h0_w15 ho_w0_w15 ho_g0_w15 ho_h0_w15 hbw_w15 hsw_w15 hb_w16
  obtain ⟨hx0_aC, hx1_aC, hx2_aC, hxl_aC⟩ := blk3 hk_aC_w16
  obtain ⟨hx0_aS, hx1_aS, hx2_aS, hx3_aS, hx4_aS, hx5_aS, hx6_aS, hxl_aS⟩ := blk7 hk_aS_w16
  obtain ⟨hx0_w0, hx1_w0, hx2_w0, hxl_w0⟩ := blk3 hk_w0_w16
  obtain ⟨hx0_x0, hx1_x0, hx2_x0, hxl_x0⟩ := blk3 hk_x0_w16
  obtain ⟨hx0_g0, hx1_g0, hx2_g0, hxl_g0⟩ := blk3 hk_g0_w16
  obtain ⟨hx0_h0, hx1_h0, hx2_h0, hxl_h0⟩ := blk3 hk_h0_w16
  go_wp2
  go_ret
  exact ⟨rfl, hbw_w16⟩

end Go.Proofs.Ytdkelaiadgechaa.fnExactStepOn
