/- The walk of FnExactAddItem, for arguments that are not too large. -/
import Derived.Test.YtmmohnbmoilaaaaItem14
import Derived.Test.YtmmohnbmoilaaaaItem13
import Derived.Test.YtmmohnbmoilaaaaItem3
import Derived.Test.YtmmohnbmoilaaaaLift
import Derived.Test.YtmmohnbmoilaaaaLawKit3
import Derived.Deep.Slices
import Derived.SliceStrings
import Derived.Lib.SmallJoins
import Derived.Deep.DeepCutAuto
import Derived.Deep.RegionHeld3
namespace Go.Proofs.Ytmmohnbmoilaaaa.fnExactAddItem
open Go.ChangeShapes Go.WideShapes Go.ChangeAt Go.RowKit Go.Joins Go.WideMaps Go.WideElems
open Go.ChangeMaps (open_string shut_string)
set_option linter.unusedVariables false

set_option maxRecDepth 100000 in
set_option maxHeartbeats 16000000 in
theorem walkAddItem (Am : Option Addr) (cm : Nat) (Lm : List RItem) (nmi : ByteArray) (di fi : Int) (Ai : Option Addr) (ni ci : Nat) (ssi : List ByteArray) (w : World) (hSm : Items w w.heap.size Am Lm.length Lm) (hnm : OkItems (plI Lm) 1048576) (hSi : Strs w w.heap.size Ai ni ssi) (hni : ni ≤ 1048576) (hnmi : nmi.size ≤ 1048576) (hz1 : 0 ≤ szItems (plI Lm) (1048576)) (hz2 : 0 ≤ szItem nmi ssi (szItems (plI Lm) (1048576))) :
    Calls Try.prog 5 #[.slice Am Lm.length cm, .agg #[.string nmi, .int .i64 di, .int .i64 fi, .slice Ai ni ci]] w fun e w' => e = .returned (.bool true) ∧ Below w.heap.size w w' := by
  obtain ⟨Pm, hpl_m⟩ : ∃ P, plI Lm = P := ⟨_, rfl⟩
  rw [hpl_m] at hnm
  have HPL_m := Lib.hid hpl_m
  clear hpl_m
  have hokm : OkItems Pm 1048576 := hnm
  have hoki : OkS ssi 1048576 := (by have hli := hSi.len; exact ⟨by omega, hSi.sb⟩)
  have hrok : OkItems (added Pm (PItem.mk nmi di fi ssi)).1 1048576 := by
    exact added_ok Pm (PItem.mk nmi di fi ssi) 1048576 hokm ⟨hoki.1, hoki.2, by show nmi.size ≤ _; omega⟩ (by omega)
  have hspec := fun (W : World) (A_0m : Option Addr) (c_0m : Nat) (L_0m : List RItem) (hp_0m : plI L_0m = Pm) (h_0m : Items W W.heap.size A_0m Pm.length L_0m) (hc_0m : Pm.length ≤ c_0m ∧ c_0m ≤ 9223372036854775807 ∧ (A_0m = none → c_0m = 0)) (A_0i : Option Addr) (c_0i : Nat) (h_0i : Strs W W.heap.size A_0i ssi.length ssi) (hc_0i : ssi.length ≤ c_0i ∧ c_0i ≤ 9223372036854775807) => s_AddItem nmi di fi A_0i c_0i ssi Pm W.heap.size A_0m _ c_0m L_0m W hp_0m h_0m h_0i (by omega) (Nat.le_refl _) (by have := hokm.1; omega) hc_0m.1 hc_0m.2.1 hc_0m.2.2
  have himpl := fun (W : World) (A_0m : Option Addr) (c_0m : Nat) (L_0m : List RItem) (hp_0m : plI L_0m = Pm) (h_0m : Items W W.heap.size A_0m Pm.length L_0m) (hc_0m : Pm.length ≤ c_0m ∧ c_0m ≤ 9223372036854775807 ∧ (A_0m = none → c_0m = 0)) (A_0i : Option Addr) (c_0i : Nat) (h_0i : Strs W W.heap.size A_0i ssi.length ssi) (hc_0i : ssi.length ≤ c_0i ∧ c_0i ≤ 9223372036854775807) => i_AddItem nmi di fi A_0i c_0i ssi Pm W.heap.size A_0m _ c_0m L_0m W hp_0m h_0m h_0i (by omega) (Nat.le_refl _) (by have := hokm.1; omega)
  generalize hgen0 : ((added Pm (PItem.mk nmi di fi ssi)).1) = Pr at hspec himpl hrok
  generalize hgen1 : ((added Pm (PItem.mk nmi di fi ssi)).2) = rb at hspec himpl hrok
  clear hgen0 hgen1
  have HSPEC := hide hspec
  have HIMPL := hide himpl
  clear hspec himpl
  have HOKm := hide hokm
  clear hokm
  have HOKi := hide hoki
  clear hoki
  have HOKR := hide hrok
  clear hrok
  go_enter Try.func5, Try.ntmps5
  go_wp2_with fail
  have hk_aX_w1 := (blk_new_at w (.cells #[.string nmi, .int .i64 di, .int .i64 fi, .slice Ai ni ci] 52) (k := w.heap.size) (by simp))
  have hbw_w1 : Below w.heap.size w (w.alloc (.cells #[.string nmi, .int .i64 di, .int .i64 fi, .slice Ai ni ci] 52)) := (by repeat (first | (with_reducible exact Below.refl _ _) | (with_reducible assumption) | (with_reducible exact (‹_ ∧ _ ∧ Below _ _ _›).2.2) | (with_reducible refine below_drewN ?_ _) | (with_reducible refine Below.drew ?_) | ((with_reducible refine Below.alloc ?_ ?hsd _); (case hsd => (first | exact Nat.le_refl _ | (simp; done) | omega | (simp; omega) | exact (‹_ ∧ _ ∧ Below _ _ _›).2.2.size))) | ((with_reducible refine Below.setCell ?_ ?hsd _); (case hsd => (first | exact Nat.le_refl _ | (simp; done) | omega | (simp; omega) | exact (‹_ ∧ _ ∧ Below _ _ _›).2.2.size))) | ((with_reducible refine Below.trans ?_ (Below.mono (by with_reducible assumption) ?hsd)); (case hsd => (first | exact Nat.le_refl _ | (simp; done) | omega | (simp; omega) | exact (‹_ ∧ _ ∧ Below _ _ _›).2.2.size))) | exact Below.refl _ _ | assumption | exact (‹_ ∧ _ ∧ Below _ _ _›).2.2 | refine below_drewN ?_ _ | refine Below.drew ?_ | refine Below.alloc ?_ (by first | exact Nat.le_refl _ | (simp; done) | omega | (simp; omega) | exact (‹_ ∧ _ ∧ Below _ _ _›).2.2.size) _ | refine Below.setCell ?_ (by first | exact Nat.le_refl _ | (simp; done) | omega | (simp; omega) | exact (‹_ ∧ _ ∧ Below _ _ _›).2.2.size) _ | refine Below.trans ?_ (Below.mono (by assumption) (by first | exact Nat.le_refl _ | (simp; done) | omega | (simp; omega) | exact (‹_ ∧ _ ∧ Below _ _ _›).2.2.size))))
  have hsw_w1 := hbw_w1.size
  have hch_w1 : w.heap.size + 1 ≤ (w.alloc (.cells #[.string nmi, .int .i64 di, .int .i64 fi, .slice Ai ni ci] 52)).heap.size := (by simp; try omega)
  generalize (w.alloc (.cells #[.string nmi, .int .i64 di, .int .i64 fi, .slice Ai ni ci] 52)) = w1 at *
  refine (l_szItemS w.heap.size Am cm Lm (1048576) _ (hSm.raw.below hbw_w1) hsw_w1 (by omega) (by omega)).mono ?_
  rintro e w2 ⟨rfl, hb_w2⟩
  have hk_aX_w2 := blk_next hk_aX_w1 hb_w2
  have hbw_w2 : Below w.heap.size w w2 := hbw_w1.trans (Below.mono hb_w2 hsw_w1)
  have hsw_w2 := hbw_w2.size
  have hch_w2 : w1.heap.size ≤ w2.heap.size := hb_w2.size
  clear hk_aX_w1 hbw_w1 hsw_w1 hb_w2
  have hub_w2 : szItems (plI Lm) (1048576) ≤ 1048576 := szItems_ub _ _ (by omega)
  obtain ⟨hx0_aX, hx1_aX, hx2_aX, hx3_aX, hxl_aX⟩ := blk4 hk_aX_w2
  go_wp2_with fail
  refine (l_szItem nmi di fi w.heap.size Ai ni ci ssi (szItems (plI Lm) (1048576)) _ hsw_w2 (hSi.rd.below hbw_w2) (by omega) (fun s hs => by have := hSi.sb s hs; omega) (by omega) (by omega) (by omega)).mono ?_
  rintro e w3 ⟨rfl, hb_w3⟩
  clear hx0_aX hx1_aX hx2_aX hx3_aX hxl_aX
  have hk_aX_w3 := blk_next hk_aX_w2 hb_w3
  have hbw_w3 : Below w.heap.size w w3 := hbw_w2.trans (Below.mono hb_w3 hsw_w2)
  have hsw_w3 := hbw_w3.size
  have hch_w3 : w2.heap.size ≤ w3.heap.size := hb_w3.size
  clear hk_aX_w2 hbw_w2 hsw_w2 hb_w3
  have hub_w3 : szItem nmi ssi (szItems (plI Lm) (1048576)) ≤ 1048576 := szItem_ub _ _ _ (by omega)
  obtain ⟨hx0_aX, hx1_aX, hx2_aX, hx3_aX, hxl_aX⟩ := blk4 hk_aX_w3
  go_upto_region 8 with fail
  have hSm_c := hSm.below hbw_w3
  have hSi_c := hSi.below hbw_w3
  go_cut [6, 7] (fun s6 s7 wx => ∃ (A_w0 : Option Addr) (c_w0 : Nat) (L_w0 : List RItem), s6 = .slice A_w0 Pr.length c_w0 ∧ s7 = .bool rb ∧ plI L_w0 = Pr ∧ OwnItems wx (w3.heap.size) (wx.heap.size) A_w0 Pr.length c_w0 L_w0 ∧ Below w3.heap.size w3 wx)
  case first =>
    go_region_held3 (fun W => (∀ b o, b < w3.heap.size → W.cell? ⟨b, o, none⟩ = (w3).cell? ⟨b, o, none⟩) ∧ (∀ b o, b < w3.heap.size → W.frozen? ⟨b, o, none⟩ = (w3).frozen? ⟨b, o, none⟩) ∧ Below (w3.heap.size) (w3) W) (exact keep_of (by repeat (first | (with_reducible exact Below.refl _ _) | (with_reducible assumption) | (with_reducible exact (‹_ ∧ _ ∧ Below _ _ _›).2.2) | (with_reducible refine below_drewN ?_ _) | (with_reducible refine Below.drew ?_) | ((with_reducible refine Below.alloc ?_ ?hsd _); (case hsd => (first | exact Nat.le_refl _ | (simp; done) | omega | (simp; omega) | exact (‹_ ∧ _ ∧ Below _ _ _›).2.2.size))) | ((with_reducible refine Below.setCell ?_ ?hsd _); (case hsd => (first | exact Nat.le_refl _ | (simp; done) | omega | (simp; omega) | exact (‹_ ∧ _ ∧ Below _ _ _›).2.2.size))) | ((with_reducible refine Below.trans ?_ (Below.mono (by with_reducible assumption) ?hsd)); (case hsd => (first | exact Nat.le_refl _ | (simp; done) | omega | (simp; omega) | exact (‹_ ∧ _ ∧ Below _ _ _›).2.2.size))) | exact Below.refl _ _ | assumption | exact (‹_ ∧ _ ∧ Below _ _ _›).2.2 | refine below_drewN ?_ _ | refine Below.drew ?_ | refine Below.alloc ?_ (by first | exact Nat.le_refl _ | (simp; done) | omega | (simp; omega) | exact (‹_ ∧ _ ∧ Below _ _ _›).2.2.size) _ | refine Below.setCell ?_ (by first | exact Nat.le_refl _ | (simp; done) | omega | (simp; omega) | exact (‹_ ∧ _ ∧ Below _ _ _›).2.2.size) _ | refine Below.trans ?_ (Below.mono (by assumption) (by first | exact Nat.le_refl _ | (simp; done) | omega | (simp; omega) | exact (‹_ ∧ _ ∧ Below _ _ _›).2.2.size))))) (first | (go_at_call 29; have hq := (‹_ ∧ _ ∧ Below _ _ _›).2.2; refine (u_toItemS Pm w.heap.size Am cm Lm _ HPL_m.out ?_ ?_).mono ?_; exact hSm_c.below (hq.mono hsw_w3); exact Nat.le_trans hsw_w3 hq.size; rintro e wt1_0 ⟨A_t1_0, c_t1_0, L_t1_0, rfl, hp_t1_0, hor1_0, hbt1_0⟩; (have hot1_0 := hor1_0.wide (lo' := w3.heap.size) (hi' := wt1_0.heap.size) (by first | exact hq.size | exact Nat.le_refl _) (Nat.le_refl _)); clear hor1_0; have hqs1_0 := hq.size; have hbs1_0 := hbt1_0.size; (try simp at hqs1_0); (try simp at hbs1_0); obtain ⟨hcb1_0, hfb1_0⟩ := bcell hbt1_0; (try (have hzl_w3_1_0 : w3.heap.size < wt1_0.heap.size := (by omega)))) | (go_at_call 30; have hq := (‹_ ∧ _ ∧ Below _ _ _›).2.2; refine (u_toItem nmi di fi w.heap.size Ai ni ci ssi _ ?_ ?_).mono ?_; exact hSi_c.below (hq.mono hsw_w3); exact Nat.le_trans hsw_w3 hq.size; rintro e wt1_1 ⟨A_t1_1, c_t1_1, rfl, hor1_1, hbt1_1⟩; (have hot1_1 := hor1_1.wide (lo' := w3.heap.size) (hi' := wt1_1.heap.size) (by first | exact hq.size | exact Nat.le_refl _) (Nat.le_refl _)); clear hor1_1; have hqs1_1 := hq.size; have hbs1_1 := hbt1_1.size; (try simp at hqs1_1); (try simp at hbs1_1); (have hot1_0 : OwnItems wt1_1 (w3.heap.size) (wt1_0.heap.size) A_t1_0 Pm.length c_t1_0 L_t1_0 := (by first | exact hot1_0.below hbt1_1 | exact (hot1_0.alloc _).below hbt1_1)); obtain ⟨hcb1_1, hfb1_1⟩ := bcell hbt1_1; (try (have hzl_w3_1_1 : w3.heap.size < wt1_1.heap.size := (by omega))); (try (have hzl_wt1_0_1_1 : wt1_0.heap.size < wt1_1.heap.size := (by omega)))) | (go_at_call 28; have hqf := (‹_ ∧ _ ∧ Below _ _ _›).2.2; (first | refine (unhide HSPEC _ _ _ _ hp_t1_0 (hot1_0.rdP hp_t1_0 ((unhide HOKm).more (by omega))) (own_capI hot1_0.row) _ _ (hot1_1.rd ((unhide HOKi).more (by omega)).1 (unhide HOKi).2) (own_cap hot1_1.row)).mono ?_ | refine (unhide HSPEC _ _ _ _ hp_t1_0 ((hot1_0.alloc _).rdP hp_t1_0 ((unhide HOKm).more (by omega))) (own_capI (hot1_0.alloc _).row) _ _ ((hot1_1.alloc _).rd ((unhide HOKi).more (by omega)).1 (unhide HOKi).2) (own_cap (hot1_1.alloc _).row)).mono ?_); rintro e wf1 ⟨A_f1, c_f1, L_f1, rfl, hp_f1, horf1, hbf1⟩; (have hof1 := horf1.wide (lo' := w3.heap.size) (hi' := wf1.heap.size) (by first | exact hqf.size | exact Nat.le_refl _) (Nat.le_refl _)); clear horf1; have hqsf := hqf.size; have hbsf := hbf1.size; (try simp at hqsf); (try simp at hbsf); obtain ⟨hcbf1, hfbf1⟩ := bcell hbf1; (try (have hzl_w3_f : w3.heap.size < wf1.heap.size := (by omega))); (try (have hzl_wt1_0_f : wt1_0.heap.size < wf1.heap.size := (by omega))); (try (have hzl_wt1_1_f : wt1_1.heap.size < wf1.heap.size := (by omega)))))
    all_goals (go_wp2_with fail)
    all_goals (go_meet)
    all_goals (
      refine ⟨A_f1, c_f1, L_f1, rfl, rfl, hp_f1, ?_, ?_⟩
      first | exact hof1 | exact hof1.drew
      exact (by repeat (first | (with_reducible exact Below.refl _ _) | (with_reducible assumption) | (with_reducible exact (‹_ ∧ _ ∧ Below _ _ _›).2.2) | (with_reducible refine below_drewN ?_ _) | (with_reducible refine Below.drew ?_) | ((with_reducible refine Below.alloc ?_ ?hsd _); (case hsd => (first | exact Nat.le_refl _ | (simp; done) | omega | (simp; omega) | exact (‹_ ∧ _ ∧ Below _ _ _›).2.2.size))) | ((with_reducible refine Below.setCell ?_ ?hsd _); (case hsd => (first | exact Nat.le_refl _ | (simp; done) | omega | (simp; omega) | exact (‹_ ∧ _ ∧ Below _ _ _›).2.2.size))) | ((with_reducible refine Below.trans ?_ (Below.mono (by with_reducible assumption) ?hsd)); (case hsd => (first | exact Nat.le_refl _ | (simp; done) | omega | (simp; omega) | exact (‹_ ∧ _ ∧ Below _ _ _›).2.2.size))) | exact Below.refl _ _ | assumption | exact (‹_ ∧ _ ∧ Below _ _ _›).2.2 | refine below_drewN ?_ _ | refine Below.drew ?_ | refine Below.alloc ?_ (by first | exact Nat.le_refl _ | (simp; done) | omega | (simp; omega) | exact (‹_ ∧ _ ∧ Below _ _ _›).2.2.size) _ | refine Below.setCell ?_ (by first | exact Nat.le_refl _ | (simp; done) | omega | (simp; omega) | exact (‹_ ∧ _ ∧ Below _ _ _›).2.2.size) _ | refine Below.trans ?_ (Below.mono (by assumption) (by first | exact Nat.le_refl _ | (simp; done) | omega | (simp; omega) | exact (‹_ ∧ _ ∧ Below _ _ _›).2.2.size)))))
  obtain ⟨A_w0, c_w0, L_w0, rfl, rfl, hp_w0, hon, hbn⟩ := hcut
  replace hp_w0 := hide hp_w0
  obtain ⟨w4, hwc⟩ : ∃ W, W = wc := ⟨_, rfl⟩
  subst hwc
  clear hx0_aX hx1_aX hx2_aX hx3_aX hxl_aX
  have hk_aX_w4 := blk_next hk_aX_w3 hbn
  have hbw_w4 : Below w.heap.size w w4 := hbw_w3.trans (Below.mono hbn hsw_w3)
  have hsw_w4 := hbw_w4.size
  have hch_w4 : w3.heap.size ≤ w4.heap.size := hbn.size
  clear hk_aX_w3 hbw_w3 hsw_w3 hbn
  have ho_w0_w4 := hon
  clear hon
  clear hSm_c hSi_c
  go_wp2_with fail
  refine (u_toItemS Pm w.heap.size Am cm Lm _ HPL_m.out (hSm.below hbw_w4) hsw_w4).mono ?_
  rintro e w5 ⟨A_x0, c_x0, L_x0, rfl, hp_x0, hon, hb_w5⟩
  replace hp_x0 := hide hp_x0
  have hk_aX_w5 := blk_next hk_aX_w4 hb_w5
  have ho_w0_w5 := ho_w0_w4.below hb_w5
  have hbw_w5 : Below w.heap.size w w5 := hbw_w4.trans (Below.mono hb_w5 hsw_w4)
  have hsw_w5 := hbw_w5.size
  have hch_w5 : w4.heap.size ≤ w5.heap.size := hb_w5.size
  clear hk_aX_w4 ho_w0_w4 hbw_w4 hsw_w4 hb_w5
  have ho_x0_w5 := hon
  clear hon
  obtain ⟨hx0_aX, hx1_aX, hx2_aX, hx3_aX, hxl_aX⟩ := blk4 hk_aX_w5
  go_wp2_with fail
  refine (u_toItem nmi di fi w.heap.size Ai ni ci ssi _ (hSi.below hbw_w5) hsw_w5).mono ?_
  rintro e w6 ⟨A_x1, c_x1, rfl, hon, hb_w6⟩
  clear hx0_aX hx1_aX hx2_aX hx3_aX hxl_aX
  have hk_aX_w6 := blk_next hk_aX_w5 hb_w6
  have ho_w0_w6 := ho_w0_w5.below hb_w6
  have ho_x0_w6 := ho_x0_w5.below hb_w6
  have hbw_w6 : Below w.heap.size w w6 := hbw_w5.trans (Below.mono hb_w6 hsw_w5)
  have hsw_w6 := hbw_w6.size
  have hch_w6 : w5.heap.size ≤ w6.heap.size := hb_w6.size
  clear hk_aX_w5 ho_w0_w5 ho_x0_w5 hbw_w5 hsw_w5 hb_w6
  have ho_x1_w6 := hon
  clear hon
  go_wp2_with fail
  have hk_aX_w7 := (blk_alloc hk_aX_w6 (.cells #[.string nmi, .int .i64 di, .int .i64 fi, .slice A_x1 ssi.length c_x1] 60))
  have hk_x1_w7 := (blk_new_at w6 (.cells #[.string nmi, .int .i64 di, .int .i64 fi, .slice A_x1 ssi.length c_x1] 60) (k := w6.heap.size) (by simp))
  have ho_w0_w7 := (ho_w0_w6.alloc (.cells #[.string nmi, .int .i64 di, .int .i64 fi, .slice A_x1 ssi.length c_x1] 60))
  have ho_x0_w7 := (ho_x0_w6.alloc (.cells #[.string nmi, .int .i64 di, .int .i64 fi, .slice A_x1 ssi.length c_x1] 60))
  have ho_x1_w7 := (ho_x1_w6.alloc (.cells #[.string nmi, .int .i64 di, .int .i64 fi, .slice A_x1 ssi.length c_x1] 60))
  have hbw_w7 : Below w.heap.size w (w6.alloc (.cells #[.string nmi, .int .i64 di, .int .i64 fi, .slice A_x1 ssi.length c_x1] 60)) := (by repeat (first | (with_reducible exact Below.refl _ _) | (with_reducible assumption) | (with_reducible exact (‹_ ∧ _ ∧ Below _ _ _›).2.2) | (with_reducible refine below_drewN ?_ _) | (with_reducible refine Below.drew ?_) | ((with_reducible refine Below.alloc ?_ ?hsd _); (case hsd => (first | exact Nat.le_refl _ | (simp; done) | omega | (simp; omega) | exact (‹_ ∧ _ ∧ Below _ _ _›).2.2.size))) | ((with_reducible refine Below.setCell ?_ ?hsd _); (case hsd => (first | exact Nat.le_refl _ | (simp; done) | omega | (simp; omega) | exact (‹_ ∧ _ ∧ Below _ _ _›).2.2.size))) | ((with_reducible refine Below.trans ?_ (Below.mono (by with_reducible assumption) ?hsd)); (case hsd => (first | exact Nat.le_refl _ | (simp; done) | omega | (simp; omega) | exact (‹_ ∧ _ ∧ Below _ _ _›).2.2.size))) | exact Below.refl _ _ | assumption | exact (‹_ ∧ _ ∧ Below _ _ _›).2.2 | refine below_drewN ?_ _ | refine Below.drew ?_ | refine Below.alloc ?_ (by first | exact Nat.le_refl _ | (simp; done) | omega | (simp; omega) | exact (‹_ ∧ _ ∧ Below _ _ _›).2.2.size) _ | refine Below.setCell ?_ (by first | exact Nat.le_refl _ | (simp; done) | omega | (simp; omega) | exact (‹_ ∧ _ ∧ Below _ _ _›).2.2.size) _ | refine Below.trans ?_ (Below.mono (by assumption) (by first | exact Nat.le_refl _ | (simp; done) | omega | (simp; omega) | exact (‹_ ∧ _ ∧ Below _ _ _›).2.2.size))))
  have hsw_w7 := hbw_w7.size
  have hch_w7 : w6.heap.size + 1 ≤ (w6.alloc (.cells #[.string nmi, .int .i64 di, .int .i64 fi, .slice A_x1 ssi.length c_x1] 60)).heap.size := (by simp; try omega)
  generalize (w6.alloc (.cells #[.string nmi, .int .i64 di, .int .i64 fi, .slice A_x1 ssi.length c_x1] 60)) = w7 at *
  clear hk_aX_w6 ho_w0_w6 ho_x0_w6 ho_x1_w6 hbw_w6 hsw_w6
  refine (unhide HIMPL _ _ _ _ (unhide hp_x0) (ho_x0_w7.rdP (unhide hp_x0) ((unhide HOKm).more (by omega))) (own_capI ho_x0_w7.row) _ _ (ho_x1_w7.rd ((unhide HOKi).more (by omega)).1 (unhide HOKi).2) (own_cap ho_x1_w7.row)).mono ?_
  rintro e w8 ⟨A_g0, c_g0, L_g0, rfl, hp_g0, hon, hb_w8⟩
  replace hp_g0 := hide hp_g0
  have hk_aX_w8 := blk_next hk_aX_w7 hb_w8
  have hk_x1_w8 := blk_next hk_x1_w7 hb_w8
  have ho_w0_w8 := ho_w0_w7.below hb_w8
  have ho_x0_w8 := ho_x0_w7.below hb_w8
  have ho_x1_w8 := ho_x1_w7.below hb_w8
  have hbw_w8 : Below w.heap.size w w8 := hbw_w7.trans (Below.mono hb_w8 hsw_w7)
  have hsw_w8 := hbw_w8.size
  have hch_w8 : w7.heap.size ≤ w8.heap.size := hb_w8.size
  clear hk_aX_w7 hk_x1_w7 ho_w0_w7 ho_x0_w7 ho_x1_w7 hbw_w7 hsw_w7 hb_w8
  have ho_g0_w8 := hon
  clear hon
  go_wp2_with fail
  refine (u_eqItemS Pr _ _ _ _ _ _ _ _ _ _ _ ho_g0_w8 ho_w0_w8 (unhide hp_g0) (unhide hp_w0) ((unhide HOKR).more (by omega))).mono ?_
  rintro e w9 ⟨rfl, hb_w9⟩
  have hk_aX_w9 := blk_next hk_aX_w8 hb_w9
  have hk_x1_w9 := blk_next hk_x1_w8 hb_w9
  have ho_w0_w9 := ho_w0_w8.below hb_w9
  have ho_x0_w9 := ho_x0_w8.below hb_w9
  have ho_x1_w9 := ho_x1_w8.below hb_w9
  have ho_g0_w9 := ho_g0_w8.below hb_w9
  have hbw_w9 : Below w.heap.size w w9 := hbw_w8.trans (Below.mono hb_w9 hsw_w8)
  have hsw_w9 := hbw_w9.size
  have hch_w9 : w8.heap.size ≤ w9.heap.size := hb_w9.size
  clear hk_aX_w8 hk_x1_w8 ho_w0_w8 ho_x0_w8 ho_x1_w8 ho_g0_w8 hbw_w8 hsw_w8 hb_w9
  go_wp2_with fail
  refine (u_toItemS Pm w.heap.size Am cm Lm _ HPL_m.out (hSm.below hbw_w9) hsw_w9).mono ?_
  rintro e w10 ⟨A_a10, c_a10, L_a10, rfl, hp_a10, hon, hb_w10⟩
  replace hp_a10 := hide hp_a10
  have hk_aX_w10 := blk_next hk_aX_w9 hb_w10
  have hk_x1_w10 := blk_next hk_x1_w9 hb_w10
  have ho_w0_w10 := ho_w0_w9.below hb_w10
  have ho_x0_w10 := ho_x0_w9.below hb_w10
  have ho_x1_w10 := ho_x1_w9.below hb_w10
  have ho_g0_w10 := ho_g0_w9.below hb_w10
  have hbw_w10 : Below w.heap.size w w10 := hbw_w9.trans (Below.mono hb_w10 hsw_w9)
  have hsw_w10 := hbw_w10.size
  have hch_w10 : w9.heap.size ≤ w10.heap.size := hb_w10.size
  clear hk_aX_w9 hk_x1_w9 ho_w0_w9 ho_x0_w9 ho_x1_w9 ho_g0_w9 hbw_w9 hsw_w9 hb_w10
  have ho_a10_w10 := hon
  clear hon
  go_wp2_with fail
  refine (u_eqItemS Pm _ _ _ _ _ _ _ _ _ _ _ ho_x0_w10 ho_a10_w10 (unhide hp_x0) (unhide hp_a10) ((unhide HOKm).more (by omega))).mono ?_
  rintro e w11 ⟨rfl, hb_w11⟩
  clear ho_a10_w10
  have hk_aX_w11 := blk_next hk_aX_w10 hb_w11
  have hk_x1_w11 := blk_next hk_x1_w10 hb_w11
  have ho_w0_w11 := ho_w0_w10.below hb_w11
  have ho_x0_w11 := ho_x0_w10.below hb_w11
  have ho_x1_w11 := ho_x1_w10.below hb_w11
  have ho_g0_w11 := ho_g0_w10.below hb_w11
  have hbw_w11 : Below w.heap.size w w11 := hbw_w10.trans (Below.mono hb_w11 hsw_w10)
  have hsw_w11 := hbw_w11.size
  have hch_w11 : w10.heap.size ≤ w11.heap.size := hb_w11.size
  clear hk_aX_w10 hk_x1_w10 ho_w0_w10 ho_x0_w10 ho_x1_w10 ho_g0_w10 hbw_w10 hsw_w10 hb_w11
  obtain ⟨hx0_aX, hx1_aX, hx2_aX, hx3_aX, hxl_aX⟩ := blk4 hk_aX_w11
  obtain ⟨hx0_x1, hx1_x1, hx2_x1, hx3_x1, hxl_x1⟩ := blk4 hk_x1_w11
  go_wp2_with fail
  have hS_c := hSi.below hbw_w11
  go_region_held3 (fun W => (∀ b o, b < w11.heap.size → W.cell? ⟨b, o, none⟩ = (w11).cell? ⟨b, o, none⟩) ∧ (∀ b o, b < w11.heap.size → W.frozen? ⟨b, o, none⟩ = (w11).frozen? ⟨b, o, none⟩) ∧ Below (w11.heap.size) (w11) W) (exact keep_of (by repeat (first | (with_reducible exact Below.refl _ _) | (with_reducible assumption) | (with_reducible exact (‹_ ∧ _ ∧ Below _ _ _›).2.2) | (with_reducible refine below_drewN ?_ _) | (with_reducible refine Below.drew ?_) | ((with_reducible refine Below.alloc ?_ ?hsd _); (case hsd => (first | exact Nat.le_refl _ | (simp; done) | omega | (simp; omega) | exact (‹_ ∧ _ ∧ Below _ _ _›).2.2.size))) | ((with_reducible refine Below.setCell ?_ ?hsd _); (case hsd => (first | exact Nat.le_refl _ | (simp; done) | omega | (simp; omega) | exact (‹_ ∧ _ ∧ Below _ _ _›).2.2.size))) | ((with_reducible refine Below.trans ?_ (Below.mono (by with_reducible assumption) ?hsd)); (case hsd => (first | exact Nat.le_refl _ | (simp; done) | omega | (simp; omega) | exact (‹_ ∧ _ ∧ Below _ _ _›).2.2.size))) | exact Below.refl _ _ | assumption | exact (‹_ ∧ _ ∧ Below _ _ _›).2.2 | refine below_drewN ?_ _ | refine Below.drew ?_ | refine Below.alloc ?_ (by first | exact Nat.le_refl _ | (simp; done) | omega | (simp; omega) | exact (‹_ ∧ _ ∧ Below _ _ _›).2.2.size) _ | refine Below.setCell ?_ (by first | exact Nat.le_refl _ | (simp; done) | omega | (simp; omega) | exact (‹_ ∧ _ ∧ Below _ _ _›).2.2.size) _ | refine Below.trans ?_ (Below.mono (by assumption) (by first | exact Nat.le_refl _ | (simp; done) | omega | (simp; omega) | exact (‹_ ∧ _ ∧ Below _ _ _›).2.2.size))))) (first | (go_at_call 30; have hq := (‹_ ∧ _ ∧ Below _ _ _›).2.2; refine (u_toItem nmi di fi w.heap.size Ai ni ci ssi _ ?_ ?_).mono ?_; exact hS_c.below (hq.mono hsw_w11); exact Nat.le_trans hsw_w11 hq.size; rintro e wa_w12 ⟨A_aw12, c_aw12, rfl, hoa, hba⟩) | (go_at_call 33; have hq2 := (‹_ ∧ _ ∧ Below _ _ _›).2.2; (first | refine (u_eqItem nmi di fi _ _ _ _ ssi _ _ _ _ _ (ho_x1_w11.below hq2) hoa ((unhide HOKi).more (by omega))).mono ?_ | refine (u_eqItem nmi di fi _ _ _ _ ssi _ _ _ _ _ (ho_x1_w11.below hq2) hoa.drew ((unhide HOKi).more (by omega))).mono ?_); rintro e w12 ⟨rfl, hbz⟩))
  have hb67 : Below w11.heap.size w11 wa_w12 := (Below.refl _ _).drew.trans hba
  have hz7 : w11.heap.size ≤ wa_w12.heap.size := hba.size
  have hb68 : Below w11.heap.size w11 w12 := hb67.trans (hbz.mono hz7)
  clear hS_c hoa hba hbz hb67 hz7
  clear hx0_aX hx1_aX hx2_aX hx3_aX hxl_aX hx0_x1 hx1_x1 hx2_x1 hx3_x1 hxl_x1
  have hk_aX_w12 := blk_next hk_aX_w11 hb68
  have hk_x1_w12 := blk_next hk_x1_w11 hb68
  have ho_w0_w12 := ho_w0_w11.below hb68
  have ho_x0_w12 := ho_x0_w11.below hb68
  have ho_x1_w12 := ho_x1_w11.below hb68
  have ho_g0_w12 := ho_g0_w11.below hb68
  have hbw_w12 : Below w.heap.size w w12 := hbw_w11.trans (Below.mono hb68 hsw_w11)
  have hsw_w12 := hbw_w12.size
  have hch_w12 : w11.heap.size ≤ w12.heap.size := hb68.size
  clear hk_aX_w11 hk_x1_w11 ho_w0_w11 ho_x0_w11 ho_x1_w11 ho_g0_w11 hbw_w11 hsw_w11 hb68
  go_wp2_with fail
  refine (u_markItemS Pm _ _ _ _ _ (1) _ ho_x0_w12 (unhide hp_x0) (by have hq1_HOKm := cntI_le (unhide HOKm); omega) (by have hq1_HOKm := cntI_le (unhide HOKm); omega) ((unhide HOKm).more (by omega))).mono ?_
  rintro e w13 ⟨rfl, hm_w13, hW_w13⟩
  clear hm_w13
  have hk_aX_w13 := hW_w13.box hk_aX_w12
  have hk_x1_w13 := hW_w13.blk hk_x1_w12 (by omega)
  have ho_w0_w13 := ho_w0_w12.within hW_w13 (by omega)
  have ho_x1_w13 := ho_x1_w12.within hW_w13 (by omega)
  have ho_g0_w13 := ho_g0_w12.within hW_w13 (by omega)
  have hbw_w13 : Below w.heap.size w w13 := hbw_w12.trans (hW_w13.below (by omega) (by omega))
  have hsw_w13 := hbw_w13.size
  have hch_w13 : w12.heap.size ≤ w13.heap.size := hW_w13.size
  clear hk_aX_w12 hk_x1_w12 ho_w0_w12 ho_x0_w12 ho_x1_w12 ho_g0_w12 hbw_w12 hsw_w12 hW_w13
  obtain ⟨hx0_x1, hx1_x1, hx2_x1, hx3_x1, hxl_x1⟩ := blk4 hk_x1_w13
  go_wp2_with fail
  refine (u_markItem nmi di fi _ _ ssi _ _ (1 + (cntI Pm : Int)) _ ho_x1_w13 (by have hq1_HOKm := cntI_le (unhide HOKm); have hq1_HOKi := (unhide HOKi).1; omega) (by have hq1_HOKm := cntI_le (unhide HOKm); have hq1_HOKi := (unhide HOKi).1; omega) (by have hq1_HOKm := cntI_le (unhide HOKm); have hq1_HOKi := (unhide HOKi).1; omega)).mono ?_
  rintro e w14 ⟨rfl, hm_w14, hW_w14⟩
  clear hm_w14
  clear hx0_x1 hx1_x1 hx2_x1 hx3_x1 hxl_x1
  have hk_aX_w14 := hW_w14.box hk_aX_w13
  have hk_x1_w14 := hW_w14.blk hk_x1_w13 (by omega)
  have ho_w0_w14 := ho_w0_w13.within hW_w14 (by omega)
  have ho_g0_w14 := ho_g0_w13.within hW_w14 (by omega)
  have hbw_w14 : Below w.heap.size w w14 := hbw_w13.trans (hW_w14.below (by omega) (by omega))
  have hsw_w14 := hbw_w14.size
  have hch_w14 : w13.heap.size ≤ w14.heap.size := hW_w14.size
  clear hk_aX_w13 hk_x1_w13 ho_w0_w13 ho_x1_w13 ho_g0_w13 hbw_w13 hsw_w13 hW_w14
  go_wp2_with fail
  refine (u_eqItemS Pr _ _ _ _ _ _ _ _ _ _ _ ho_g0_w14 ho_w0_w14 (unhide hp_g0) (unhide hp_w0) ((unhide HOKR).more (by omega))).mono ?_
  rintro e w15 ⟨rfl, hb_w15⟩
  have hk_aX_w15 := blk_next hk_aX_w14 hb_w15
  have hk_x1_w15 := blk_next hk_x1_w14 hb_w15
  have ho_w0_w15 := ho_w0_w14.below hb_w15
  have ho_g0_w15 := ho_g0_w14.below hb_w15
  have hbw_w15 : Below w.heap.size w w15 := hbw_w14.trans (Below.mono hb_w15 hsw_w14)
  have hsw_w15 := hbw_w15.size
  have hch_w15 : w14.heap.size ≤ w15.heap.size := hb_w15.size
  clear hk_aX_w14 hk_x1_w14 ho_w0_w14 ho_g0_w14 hbw_w14 hsw_w14 hb_w15
  go_wp2_with fail
  refine (u_markItemS Pr _ _ _ _ _ (1) _ ho_g0_w15 (unhide hp_g0) (by have hq1_HOKm := cntI_le (unhide HOKm); have hq1_HOKi := (unhide HOKi).1; have hq1_HOKR := cntI_le (unhide HOKR); omega) (by have hq1_HOKm := cntI_le (unhide HOKm); have hq1_HOKi := (unhide HOKi).1; have hq1_HOKR := cntI_le (unhide HOKR); omega) ((unhide HOKR).more (by omega))).mono ?_
  rintro e w16 ⟨rfl, hm_w16, hW_w16⟩
  have hk_aX_w16 := hW_w16.box hk_aX_w15
  have hk_x1_w16 := hW_w16.blk hk_x1_w15 (by omega)
  have ho_w0_w16 := ho_w0_w15.within hW_w16 (by omega)
  have hbw_w16 : Below w.heap.size w w16 := hbw_w15.trans (hW_w16.below (by omega) (by omega))
  have hsw_w16 := hbw_w16.size
  have hch_w16 : w15.heap.size ≤ w16.heap.size := hW_w16.size
  clear hk_aX_w15 hk_x1_w15 ho_w0_w15 ho_g0_w15 hbw_w15 hsw_w15 hW_w16
  have ho_g0_w16 := hm_w16
  clear hm_w16
  go_wp2_with fail
  refine (u_heldItemS Pr _ _ _ _ _ (1) _ ho_g0_w16 (unhide hp_g0) (by have hq1_HOKR := cntI_le (unhide HOKR); omega) (by have hq1_HOKR := cntI_le (unhide HOKR); omega) ((unhide HOKR).more (by omega))).mono ?_
  rintro e w17 ⟨rfl, hb_w17⟩
  have hk_aX_w17 := blk_next hk_aX_w16 hb_w17
  have hk_x1_w17 := blk_next hk_x1_w16 hb_w17
  have ho_w0_w17 := ho_w0_w16.below hb_w17
  have ho_g0_w17 := ho_g0_w16.below hb_w17
  have hbw_w17 : Below w.heap.size w w17 := hbw_w16.trans (Below.mono hb_w17 hsw_w16)
  have hsw_w17 := hbw_w17.size
  have hch_w17 : w16.heap.size ≤ w17.heap.size := hb_w17.size
  clear hk_aX_w16 hk_x1_w16 ho_w0_w16 ho_g0_w16 hbw_w16 hsw_w16 hb_w17
  obtain ⟨hx0_aX, hx1_aX, hx2_aX, hx3_aX, hxl_aX⟩ := blk4 hk_aX_w17
  go_upto_region 31 with fail
  have hSm_c := hSm.below hbw_w17
  have hSi_c := hSi.below hbw_w17
  go_cut [15, 16] (fun s15 s16 wx => ∃ (A_h0 : Option Addr) (c_h0 : Nat) (L_h0 : List RItem), s15 = .slice A_h0 Pr.length c_h0 ∧ s16 = .bool rb ∧ plI L_h0 = Pr ∧ OwnItems wx (w17.heap.size) (wx.heap.size) A_h0 Pr.length c_h0 L_h0 ∧ Below w17.heap.size w17 wx)
  case first =>
    go_region_held3 (fun W => (∀ b o, b < w17.heap.size → W.cell? ⟨b, o, none⟩ = (w17).cell? ⟨b, o, none⟩) ∧ (∀ b o, b < w17.heap.size → W.frozen? ⟨b, o, none⟩ = (w17).frozen? ⟨b, o, none⟩) ∧ Below (w17.heap.size) (w17) W) (exact keep_of (by repeat (first | (with_reducible exact Below.refl _ _) | (with_reducible assumption) | (with_reducible exact (‹_ ∧ _ ∧ Below _ _ _›).2.2) | (with_reducible refine below_drewN ?_ _) | (with_reducible refine Below.drew ?_) | ((with_reducible refine Below.alloc ?_ ?hsd _); (case hsd => (first | exact Nat.le_refl _ | (simp; done) | omega | (simp; omega) | exact (‹_ ∧ _ ∧ Below _ _ _›).2.2.size))) | ((with_reducible refine Below.setCell ?_ ?hsd _); (case hsd => (first | exact Nat.le_refl _ | (simp; done) | omega | (simp; omega) | exact (‹_ ∧ _ ∧ Below _ _ _›).2.2.size))) | ((with_reducible refine Below.trans ?_ (Below.mono (by with_reducible assumption) ?hsd)); (case hsd => (first | exact Nat.le_refl _ | (simp; done) | omega | (simp; omega) | exact (‹_ ∧ _ ∧ Below _ _ _›).2.2.size))) | exact Below.refl _ _ | assumption | exact (‹_ ∧ _ ∧ Below _ _ _›).2.2 | refine below_drewN ?_ _ | refine Below.drew ?_ | refine Below.alloc ?_ (by first | exact Nat.le_refl _ | (simp; done) | omega | (simp; omega) | exact (‹_ ∧ _ ∧ Below _ _ _›).2.2.size) _ | refine Below.setCell ?_ (by first | exact Nat.le_refl _ | (simp; done) | omega | (simp; omega) | exact (‹_ ∧ _ ∧ Below _ _ _›).2.2.size) _ | refine Below.trans ?_ (Below.mono (by assumption) (by first | exact Nat.le_refl _ | (simp; done) | omega | (simp; omega) | exact (‹_ ∧ _ ∧ Below _ _ _›).2.2.size))))) (first | (go_at_call 29; have hq := (‹_ ∧ _ ∧ Below _ _ _›).2.2; refine (u_toItemS Pm w.heap.size Am cm Lm _ HPL_m.out ?_ ?_).mono ?_; exact hSm_c.below (hq.mono hsw_w17); exact Nat.le_trans hsw_w17 hq.size; rintro e wt3_0 ⟨A_t3_0, c_t3_0, L_t3_0, rfl, hp_t3_0, hor3_0, hbt3_0⟩; (have hot3_0 := hor3_0.wide (lo' := w17.heap.size) (hi' := wt3_0.heap.size) (by first | exact hq.size | exact Nat.le_refl _) (Nat.le_refl _)); clear hor3_0; have hqs3_0 := hq.size; have hbs3_0 := hbt3_0.size; (try simp at hqs3_0); (try simp at hbs3_0); obtain ⟨hcb3_0, hfb3_0⟩ := bcell hbt3_0; (try (have hzl_w17_3_0 : w17.heap.size < wt3_0.heap.size := (by omega)))) | (go_at_call 30; have hq := (‹_ ∧ _ ∧ Below _ _ _›).2.2; refine (u_toItem nmi di fi w.heap.size Ai ni ci ssi _ ?_ ?_).mono ?_; exact hSi_c.below (hq.mono hsw_w17); exact Nat.le_trans hsw_w17 hq.size; rintro e wt3_1 ⟨A_t3_1, c_t3_1, rfl, hor3_1, hbt3_1⟩; (have hot3_1 := hor3_1.wide (lo' := w17.heap.size) (hi' := wt3_1.heap.size) (by first | exact hq.size | exact Nat.le_refl _) (Nat.le_refl _)); clear hor3_1; have hqs3_1 := hq.size; have hbs3_1 := hbt3_1.size; (try simp at hqs3_1); (try simp at hbs3_1); (have hot3_0 : OwnItems wt3_1 (w17.heap.size) (wt3_0.heap.size) A_t3_0 Pm.length c_t3_0 L_t3_0 := (by first | exact hot3_0.below hbt3_1 | exact (hot3_0.alloc _).below hbt3_1)); obtain ⟨hcb3_1, hfb3_1⟩ := bcell hbt3_1; (try (have hzl_w17_3_1 : w17.heap.size < wt3_1.heap.size := (by omega))); (try (have hzl_wt3_0_3_1 : wt3_0.heap.size < wt3_1.heap.size := (by omega)))) | (go_at_call 31; have hqf := (‹_ ∧ _ ∧ Below _ _ _›).2.2; (first | refine (unhide HIMPL _ _ _ _ hp_t3_0 (hot3_0.rdP hp_t3_0 ((unhide HOKm).more (by omega))) (own_capI hot3_0.row) _ _ (hot3_1.rd ((unhide HOKi).more (by omega)).1 (unhide HOKi).2) (own_cap hot3_1.row)).mono ?_ | refine (unhide HIMPL _ _ _ _ hp_t3_0 ((hot3_0.alloc _).rdP hp_t3_0 ((unhide HOKm).more (by omega))) (own_capI (hot3_0.alloc _).row) _ _ ((hot3_1.alloc _).rd ((unhide HOKi).more (by omega)).1 (unhide HOKi).2) (own_cap (hot3_1.alloc _).row)).mono ?_); rintro e wf3 ⟨A_f3, c_f3, L_f3, rfl, hp_f3, horf3, hbf3⟩; (have hof3 := horf3.wide (lo' := w17.heap.size) (hi' := wf3.heap.size) (by first | exact hqf.size | exact Nat.le_refl _) (Nat.le_refl _)); clear horf3; have hqsf := hqf.size; have hbsf := hbf3.size; (try simp at hqsf); (try simp at hbsf); obtain ⟨hcbf3, hfbf3⟩ := bcell hbf3; (try (have hzl_w17_f : w17.heap.size < wf3.heap.size := (by omega))); (try (have hzl_wt3_0_f : wt3_0.heap.size < wf3.heap.size := (by omega))); (try (have hzl_wt3_1_f : wt3_1.heap.size < wf3.heap.size := (by omega)))))
    all_goals (go_wp2_with fail)
    all_goals (go_meet)
    all_goals (
      refine ⟨A_f3, c_f3, L_f3, rfl, rfl, hp_f3, ?_, ?_⟩
      first | exact hof3 | exact hof3.drew
      exact (by repeat (first | (with_reducible exact Below.refl _ _) | (with_reducible assumption) | (with_reducible exact (‹_ ∧ _ ∧ Below _ _ _›).2.2) | (with_reducible refine below_drewN ?_ _) | (with_reducible refine Below.drew ?_) | ((with_reducible refine Below.alloc ?_ ?hsd _); (case hsd => (first | exact Nat.le_refl _ | (simp; done) | omega | (simp; omega) | exact (‹_ ∧ _ ∧ Below _ _ _›).2.2.size))) | ((with_reducible refine Below.setCell ?_ ?hsd _); (case hsd => (first | exact Nat.le_refl _ | (simp; done) | omega | (simp; omega) | exact (‹_ ∧ _ ∧ Below _ _ _›).2.2.size))) | ((with_reducible refine Below.trans ?_ (Below.mono (by with_reducible assumption) ?hsd)); (case hsd => (first | exact Nat.le_refl _ | (simp; done) | omega | (simp; omega) | exact (‹_ ∧ _ ∧ Below _ _ _›).2.2.size))) | exact Below.refl _ _ | assumption | exact (‹_ ∧ _ ∧ Below _ _ _›).2.2 | refine below_drewN ?_ _ | refine Below.drew ?_ | refine Below.alloc ?_ (by first | exact Nat.le_refl _ | (simp; done) | omega | (simp; omega) | exact (‹_ ∧ _ ∧ Below _ _ _›).2.2.size) _ | refine Below.setCell ?_ (by first | exact Nat.le_refl _ | (simp; done) | omega | (simp; omega) | exact (‹_ ∧ _ ∧ Below _ _ _›).2.2.size) _ | refine Below.trans ?_ (Below.mono (by assumption) (by first | exact Nat.le_refl _ | (simp; done) | omega | (simp; omega) | exact (‹_ ∧ _ ∧ Below _ _ _›).2.2.size)))))
  obtain ⟨A_h0, c_h0, L_h0, rfl, rfl, hp_h0, hon, hbn⟩ := hcut
  replace hp_h0 := hide hp_h0
  obtain ⟨w18, hwc⟩ : ∃ W, W = wc := ⟨_, rfl⟩
  subst hwc
  clear hx0_aX hx1_aX hx2_aX hx3_aX hxl_aX
  have hk_aX_w18 := blk_next hk_aX_w17 hbn
  have hk_x1_w18 := blk_next hk_x1_w17 hbn
  have ho_w0_w18 := ho_w0_w17.below hbn
  have ho_g0_w18 := ho_g0_w17.below hbn
  have hbw_w18 : Below w.heap.size w w18 := hbw_w17.trans (Below.mono hbn hsw_w17)
  have hsw_w18 := hbw_w18.size
  have hch_w18 : w17.heap.size ≤ w18.heap.size := hbn.size
  clear hk_aX_w17 hk_x1_w17 ho_w0_w17 ho_g0_w17 hbw_w17 hsw_w17 hbn
  have ho_h0_w18 := hon
  clear hon
  clear hSm_c hSi_c
  go_wp2_with fail
  refine (u_eqItemS Pr _ _ _ _ _ _ _ _ _ _ _ ho_h0_w18 ho_w0_w18 (unhide hp_h0) (unhide hp_w0) ((unhide HOKR).more (by omega))).mono ?_
  rintro e w19 ⟨rfl, hb_w19⟩
  have hk_aX_w19 := blk_next hk_aX_w18 hb_w19
  have hk_x1_w19 := blk_next hk_x1_w18 hb_w19
  have ho_w0_w19 := ho_w0_w18.below hb_w19
  have ho_g0_w19 := ho_g0_w18.below hb_w19
  have ho_h0_w19 := ho_h0_w18.below hb_w19
  have hbw_w19 : Below w.heap.size w w19 := hbw_w18.trans (Below.mono hb_w19 hsw_w18)
  have hsw_w19 := hbw_w19.size
  have hch_w19 : w18.heap.size ≤ w19.heap.size := hb_w19.size
  clear hk_aX_w18 hk_x1_w18 ho_w0_w18 ho_g0_w18 ho_h0_w18 hbw_w18 hsw_w18 hb_w19
  go_wp2_with fail
  refine (u_heldItemS Pr _ _ _ _ _ (1) _ ho_g0_w19 (unhide hp_g0) (by have hq1_HOKR := cntI_le (unhide HOKR); omega) (by have hq1_HOKR := cntI_le (unhide HOKR); omega) ((unhide HOKR).more (by omega))).mono ?_
  rintro e w20 ⟨rfl, hb_w20⟩
  have hk_aX_w20 := blk_next hk_aX_w19 hb_w20
  have hk_x1_w20 := blk_next hk_x1_w19 hb_w20
  have ho_w0_w20 := ho_w0_w19.below hb_w20
  have ho_g0_w20 := ho_g0_w19.below hb_w20
  have ho_h0_w20 := ho_h0_w19.below hb_w20
  have hbw_w20 : Below w.heap.size w w20 := hbw_w19.trans (Below.mono hb_w20 hsw_w19)
  have hsw_w20 := hbw_w20.size
  have hch_w20 : w19.heap.size ≤ w20.heap.size := hb_w20.size
  clear hk_aX_w19 hk_x1_w19 ho_w0_w19 ho_g0_w19 ho_h0_w19 hbw_w19 hsw_w19 hb_w20
  go_wp2
  go_ret
  exact ⟨rfl, hbw_w20⟩

end Go.Proofs.Ytmmohnbmoilaaaa.fnExactAddItem
