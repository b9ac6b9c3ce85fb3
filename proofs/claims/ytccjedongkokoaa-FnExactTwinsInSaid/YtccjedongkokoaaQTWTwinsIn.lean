/- The walk of FnExactTwinsIn, for arguments that are not too large. -/
import Derived.Deep.DeepCutAuto
import Derived.Deep.RegionHeld3
import Derived.Deep.Slices
import Derived.Lib.SmallJoins
import Derived.SliceStrings
import Derived.Test.YtccjedongkokoaaRows
import Derived.Test.YtccjedongkokoaaQTag
import Derived.Test.YtccjedongkokoaaQTah
import Derived.Test.YtccjedongkokoaaQTaj
import Derived.Test.YtccjedongkokoaaQTi
import Derived.Test.YtccjedongkokoaaQTl
import Derived.Test.YtccjedongkokoaaQTb
namespace Go.Proofs.Ytccjedongkokoaa.fnExactTwinsIn
open Go.ChangeShapes Go.WideShapes Go.ChangeAt Go.RowKit Go.Joins Go.WideMaps Go.WideElems
open Go.ChangeMaps (open_string shut_string)
set_option linter.unusedVariables false
set_option maxRecDepth 100000 in
set_option maxHeartbeats 16000000 in
theorem walkTwinsIn (Am : Option Addr) (cm : Nat) (Lm : List RItem) (w : World) (hSm : Items w w.heap.size Am Lm.length Lm) (hnm : OkItems (plI Lm) 1048576) (hz1 : 0 ≤ szItems (plI Lm) (1048576)) :
    Calls Try.prog 6 #[.slice Am Lm.length cm] w fun e w' => e = .returned (.bool true) ∧ Below w.heap.size w w' := by
  obtain ⟨Pm, hpl_m⟩ : ∃ P, plI Lm = P := ⟨_, rfl⟩
  rw [hpl_m] at hnm
  have HPL_m := Lib.hid hpl_m
  clear hpl_m
  have hokm : OkItems Pm 1048576 := hnm
  have hrok : OkPP (twRes Pm) 1048576 := by
    exact twRes_ok Pm
  have hspec := fun (W : World) (A_0m : Option Addr) (c_0m : Nat) (L_0m : List RItem) (hp_0m : plI L_0m = Pm) (h_0m : Items W W.heap.size A_0m Pm.length L_0m) (hc_0m : Pm.length ≤ c_0m ∧ c_0m ≤ 9223372036854775807) => (s_TwinsIn Pm W.heap.size A_0m _ c_0m L_0m W hp_0m h_0m (Nat.le_refl _)).mono (fun _ _ h => UPairs.of h)
  have himpl := fun (W : World) (A_0m : Option Addr) (c_0m : Nat) (L_0m : List RItem) (hp_0m : plI L_0m = Pm) (h_0m : Items W W.heap.size A_0m Pm.length L_0m) (hc_0m : Pm.length ≤ c_0m ∧ c_0m ≤ 9223372036854775807) => (i_TwinsIn Pm W.heap.size A_0m _ c_0m L_0m W hp_0m h_0m (Nat.le_refl _)).mono (fun _ _ h => UPairs.of h)
  generalize hgen0 : (twRes Pm) = lr at hspec himpl hrok
  clear hgen0
  have HSPEC := hide hspec
  have HIMPL := hide himpl
  clear hspec himpl
  have HOKm := hide hokm
  clear hokm
  have HOKR := hide hrok
  clear hrok
  go_enter Try.func6, Try.ntmps6
  have hbw_w : Below w.heap.size w w := Below.refl _ _
  have hsw_w := hbw_w.size
  go_wp2_with fail
  refine (l_szItemS w.heap.size Am cm Lm (1048576) _ (hSm.raw.below hbw_w) hsw_w (by omega) (by omega)).mono ?_
  rintro e w1 ⟨rfl, hb_w1⟩
  have hbw_w1 : Below w.heap.size w w1 := hbw_w.trans (Below.mono hb_w1 hsw_w)
  have hsw_w1 := hbw_w1.size
  have hch_w1 : w.heap.size ≤ w1.heap.size := hb_w1.size
  clear hbw_w hsw_w hb_w1
  have hub_w1 : szItems (plI Lm) (1048576) ≤ 1048576 := szItems_ub _ _ (by omega)
  go_wp2_with fail
  refine (u_toItemS Pm w.heap.size Am cm Lm _ HPL_m.out (hSm.below hbw_w1) hsw_w1).mono ?_
  rintro e w2 ⟨A_t1_0, c_t1_0, L_t1_0, rfl, hp_t1_0, hon, hb_w2⟩
  replace hp_t1_0 := hide hp_t1_0
  have hbw_w2 : Below w.heap.size w w2 := hbw_w1.trans (Below.mono hb_w2 hsw_w1)
  have hsw_w2 := hbw_w2.size
  have hch_w2 : w1.heap.size ≤ w2.heap.size := hb_w2.size
  clear hbw_w1 hsw_w1 hb_w2
  have ho_t1_0_w2 := hon
  clear hon
  go_wp2_with fail
  refine (unhide HSPEC _ _ _ _ (unhide hp_t1_0) (ho_t1_0_w2.rdP (unhide hp_t1_0) ((unhide HOKm).more (by omega))) (own_capG ho_t1_0_w2.row)).mono ?_
  rintro e w3 ⟨A_w0, c_w0, B_w0, rfl, hon, hb_w3⟩
  clear ho_t1_0_w2
  have hbw_w3 : Below w.heap.size w w3 := hbw_w2.trans (Below.mono hb_w3 hsw_w2)
  have hsw_w3 := hbw_w3.size
  have hch_w3 : w2.heap.size ≤ w3.heap.size := hb_w3.size
  clear hbw_w2 hsw_w2 hb_w3
  have ho_w0_w3 := hon
  clear hon
  go_wp2_with fail
  refine (u_toItemS Pm w.heap.size Am cm Lm _ HPL_m.out (hSm.below hbw_w3) hsw_w3).mono ?_
  rintro e w4 ⟨A_x0, c_x0, L_x0, rfl, hp_x0, hon, hb_w4⟩
  replace hp_x0 := hide hp_x0
  have ho_w0_w4 := ho_w0_w3.below hb_w4
  have hbw_w4 : Below w.heap.size w w4 := hbw_w3.trans (Below.mono hb_w4 hsw_w3)
  have hsw_w4 := hbw_w4.size
  have hch_w4 : w3.heap.size ≤ w4.heap.size := hb_w4.size
  clear ho_w0_w3 hbw_w3 hsw_w3 hb_w4
  have ho_x0_w4 := hon
  clear hon
  go_wp2_with fail
  refine (unhide HIMPL _ _ _ _ (unhide hp_x0) (ho_x0_w4.rdP (unhide hp_x0) ((unhide HOKm).more (by omega))) (own_capG ho_x0_w4.row)).mono ?_
  rintro e w5 ⟨A_g0, c_g0, B_g0, rfl, hon, hb_w5⟩
  have ho_w0_w5 := ho_w0_w4.below hb_w5
  have ho_x0_w5 := ho_x0_w4.below hb_w5
  have hbw_w5 : Below w.heap.size w w5 := hbw_w4.trans (Below.mono hb_w5 hsw_w4)
  have hsw_w5 := hbw_w5.size
  have hch_w5 : w4.heap.size ≤ w5.heap.size := hb_w5.size
  clear ho_w0_w4 ho_x0_w4 hbw_w4 hsw_w4 hb_w5
  have ho_g0_w5 := hon
  clear hon
  go_wp2_with fail
  refine (u_eqIntSS lr _ _ _ _ _ _ _ _ _ _ _ ho_g0_w5 ho_w0_w5 ((unhide HOKR).more (by omega))).mono ?_
  rintro e w6 ⟨rfl, hb_w6⟩
  have ho_w0_w6 := ho_w0_w5.below hb_w6
  have ho_x0_w6 := ho_x0_w5.below hb_w6
  have ho_g0_w6 := ho_g0_w5.below hb_w6
  have hbw_w6 : Below w.heap.size w w6 := hbw_w5.trans (Below.mono hb_w6 hsw_w5)
  have hsw_w6 := hbw_w6.size
  have hch_w6 : w5.heap.size ≤ w6.heap.size := hb_w6.size
  clear ho_w0_w5 ho_x0_w5 ho_g0_w5 hbw_w5 hsw_w5 hb_w6
  go_wp2_with fail
  refine (u_toItemS Pm w.heap.size Am cm Lm _ HPL_m.out (hSm.below hbw_w6) hsw_w6).mono ?_
  rintro e w7 ⟨A_a7, c_a7, L_a7, rfl, hp_a7, hon, hb_w7⟩
  replace hp_a7 := hide hp_a7
  have ho_w0_w7 := ho_w0_w6.below hb_w7
  have ho_x0_w7 := ho_x0_w6.below hb_w7
  have ho_g0_w7 := ho_g0_w6.below hb_w7
  have hbw_w7 : Below w.heap.size w w7 := hbw_w6.trans (Below.mono hb_w7 hsw_w6)
  have hsw_w7 := hbw_w7.size
  have hch_w7 : w6.heap.size ≤ w7.heap.size := hb_w7.size
  clear ho_w0_w6 ho_x0_w6 ho_g0_w6 hbw_w6 hsw_w6 hb_w7
  have ho_a7_w7 := hon
  clear hon
  go_wp2_with fail
  refine (u_eqItemS Pm _ _ _ _ _ _ _ _ _ _ _ ho_x0_w7 ho_a7_w7 (unhide hp_x0) (unhide hp_a7) ((unhide HOKm).more (by omega))).mono ?_
  rintro e w8 ⟨rfl, hb_w8⟩
  clear ho_a7_w7
  have ho_w0_w8 := ho_w0_w7.below hb_w8
  have ho_x0_w8 := ho_x0_w7.below hb_w8
  have ho_g0_w8 := ho_g0_w7.below hb_w8
  have hbw_w8 : Below w.heap.size w w8 := hbw_w7.trans (Below.mono hb_w8 hsw_w7)
  have hsw_w8 := hbw_w8.size
  have hch_w8 : w7.heap.size ≤ w8.heap.size := hb_w8.size
  clear ho_w0_w7 ho_x0_w7 ho_g0_w7 hbw_w7 hsw_w7 hb_w8
  go_wp2_with fail
  refine (u_markItemS Pm _ _ _ _ _ (1) _ ho_x0_w8 (unhide hp_x0) (by have hq1_HOKm := cntI_le (unhide HOKm); omega) (by have hq1_HOKm := cntI_le (unhide HOKm); omega) ((unhide HOKm).more (by omega))).mono ?_
  rintro e w9 ⟨rfl, hm_w9, hW_w9⟩
  clear hm_w9
  have ho_w0_w9 := ho_w0_w8.within hW_w9 (by omega)
  have ho_g0_w9 := ho_g0_w8.within hW_w9 (by omega)
  have hbw_w9 : Below w.heap.size w w9 := hbw_w8.trans (hW_w9.below (by omega) (by omega))
  have hsw_w9 := hbw_w9.size
  have hch_w9 : w8.heap.size ≤ w9.heap.size := hW_w9.size
  clear ho_w0_w8 ho_x0_w8 ho_g0_w8 hbw_w8 hsw_w8 hW_w9
  go_wp2_with fail
  refine (u_eqIntSS lr _ _ _ _ _ _ _ _ _ _ _ ho_g0_w9 ho_w0_w9 ((unhide HOKR).more (by omega))).mono ?_
  rintro e w10 ⟨rfl, hb_w10⟩
  have ho_w0_w10 := ho_w0_w9.below hb_w10
  have ho_g0_w10 := ho_g0_w9.below hb_w10
  have hbw_w10 : Below w.heap.size w w10 := hbw_w9.trans (Below.mono hb_w10 hsw_w9)
  have hsw_w10 := hbw_w10.size
  have hch_w10 : w9.heap.size ≤ w10.heap.size := hb_w10.size
  clear ho_w0_w9 ho_g0_w9 hbw_w9 hsw_w9 hb_w10
  go_wp2_with fail
  refine (u_markIntSS lr _ _ _ _ _ (1) _ ho_g0_w10 (by have hq1_HOKm := cntI_le (unhide HOKm); have hq1_HOKR : lr.length ≤ 1048576 := unhide HOKR; omega) (by have hq1_HOKm := cntI_le (unhide HOKm); have hq1_HOKR : lr.length ≤ 1048576 := unhide HOKR; omega) ((unhide HOKR).more (by omega))).mono ?_
  rintro e w11 ⟨rfl, hm_w11, hW_w11⟩
  have ho_w0_w11 := ho_w0_w10.within hW_w11 (by omega)
  have hbw_w11 : Below w.heap.size w w11 := hbw_w10.trans (hW_w11.below (by omega) (by omega))
  have hsw_w11 := hbw_w11.size
  have hch_w11 : w10.heap.size ≤ w11.heap.size := hW_w11.size
  clear ho_w0_w10 ho_g0_w10 hbw_w10 hsw_w10 hW_w11
  have ho_g0_w11 := hm_w11
  clear hm_w11
  go_wp2_with fail
  refine (u_heldIntSS _ _ _ _ _ _ (1) _ ho_g0_w11 (by have hq1_HOKR : lr.length ≤ 1048576 := unhide HOKR; omega) (by have hq1_HOKR : lr.length ≤ 1048576 := unhide HOKR; omega) (by have hq1_HOKR : lr.length ≤ 1048576 := unhide HOKR; omega)).mono ?_
  rintro e w12 ⟨rfl, hb_w12⟩
  have ho_w0_w12 := ho_w0_w11.below hb_w12
  have ho_g0_w12 := ho_g0_w11.below hb_w12
  have hbw_w12 : Below w.heap.size w w12 := hbw_w11.trans (Below.mono hb_w12 hsw_w11)
  have hsw_w12 := hbw_w12.size
  have hch_w12 : w11.heap.size ≤ w12.heap.size := hb_w12.size
  clear ho_w0_w11 ho_g0_w11 hbw_w11 hsw_w11 hb_w12
  go_wp2_with fail
  refine (u_toItemS Pm w.heap.size Am cm Lm _ HPL_m.out (hSm.below hbw_w12) hsw_w12).mono ?_
  rintro e w13 ⟨A_t3_0, c_t3_0, L_t3_0, rfl, hp_t3_0, hon, hb_w13⟩
  replace hp_t3_0 := hide hp_t3_0
  have ho_w0_w13 := ho_w0_w12.below hb_w13
  have ho_g0_w13 := ho_g0_w12.below hb_w13
  have hbw_w13 : Below w.heap.size w w13 := hbw_w12.trans (Below.mono hb_w13 hsw_w12)
  have hsw_w13 := hbw_w13.size
  have hch_w13 : w12.heap.size ≤ w13.heap.size := hb_w13.size
  clear ho_w0_w12 ho_g0_w12 hbw_w12 hsw_w12 hb_w13
  have ho_t3_0_w13 := hon
  clear hon
  go_wp2_with fail
  refine (unhide HIMPL _ _ _ _ (unhide hp_t3_0) (ho_t3_0_w13.rdP (unhide hp_t3_0) ((unhide HOKm).more (by omega))) (own_capG ho_t3_0_w13.row)).mono ?_
  rintro e w14 ⟨A_h0, c_h0, B_h0, rfl, hon, hb_w14⟩
  clear ho_t3_0_w13
  have ho_w0_w14 := ho_w0_w13.below hb_w14
  have ho_g0_w14 := ho_g0_w13.below hb_w14
  have hbw_w14 : Below w.heap.size w w14 := hbw_w13.trans (Below.mono hb_w14 hsw_w13)
  have hsw_w14 := hbw_w14.size
  have hch_w14 : w13.heap.size ≤ w14.heap.size := hb_w14.size
  clear ho_w0_w13 ho_g0_w13 hbw_w13 hsw_w13 hb_w14
  have ho_h0_w14 := hon
  clear hon
  go_wp2_with fail
  refine (u_eqIntSS lr _ _ _ _ _ _ _ _ _ _ _ ho_h0_w14 ho_w0_w14 ((unhide HOKR).more (by omega))).mono ?_
  rintro e w15 ⟨rfl, hb_w15⟩
  have ho_w0_w15 := ho_w0_w14.below hb_w15
  have ho_g0_w15 := ho_g0_w14.below hb_w15
  have ho_h0_w15 := ho_h0_w14.below hb_w15
  have hbw_w15 : Below w.heap.size w w15 := hbw_w14.trans (Below.mono hb_w15 hsw_w14)
  have hsw_w15 := hbw_w15.size
  have hch_w15 : w14.heap.size ≤ w15.heap.size := hb_w15.size
  clear ho_w0_w14 ho_g0_w14 ho_h0_w14 hbw_w14 hsw_w14 hb_w15
  go_wp2_with fail
  refine (u_heldIntSS _ _ _ _ _ _ (1) _ ho_g0_w15 (by have hq1_HOKR : lr.length ≤ 1048576 := unhide HOKR; omega) (by have hq1_HOKR : lr.length ≤ 1048576 := unhide HOKR; omega) (by have hq1_HOKR : lr.length ≤ 1048576 := unhide HOKR; omega)).mono ?_
  rintro e w16 ⟨rfl, hb_w16⟩
  have ho_w0_w16 := ho_w0_w15.below hb_w16
  have ho_g0_w16 := ho_g0_w15.below hb_w16
  have ho_h0_w16 := ho_h0_w15.below hb_w16
  have hbw_w16 : Below w.heap.size w w16 := hbw_w15.trans (Below.mono hb_w16 hsw_w15)
  have hsw_w16 := hbw_w16.size
  have hch_w16 : w15.heap.size ≤ w16.heap.size := hb_w16.size
  clear ho_w0_w15 ho_g0_w15 ho_h0_w15 hbw_w15 hsw_w15 hb_w16
  go_wp2
  go_ret
  exact ⟨rfl, hbw_w16⟩
end Go.Proofs.Ytccjedongkokoaa.fnExactTwinsIn
