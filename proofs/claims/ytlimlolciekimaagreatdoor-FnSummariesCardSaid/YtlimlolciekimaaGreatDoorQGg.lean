/- Contracts of the program's and the reference's functions (Draft6s). -/
import Derived.Test.YtlimlolciekimaaGreatDoorRows
import Derived.Test.YtlimlolciekimaaGreatDoorQGf
namespace Go.Proofs.YtlimlolciekimaaGreatDoor
open Go.ChangeShapes Go.WideShapes Go.ChangeAt Go.RowKit
set_option linter.unusedVariables false
set_option maxRecDepth 10000
set_option maxHeartbeats 8000000 in
theorem s_DoStep (D : PDraft) (s : PStep) (B : Nat) (A1 A2 A3 : Option Addr) (c1 c2 c3 : Nat) (w : World) (hS : RdDraft w B A1 A2 A3 D) (hB : B ≤ w.heap.size) (hbz : s.b.size ≤ 16777216) (haz : s.a.size ≤ 16777216) :
    Calls Tryz.prog 183 #[.agg (draftV D A1 c1 A2 c2 A3 c3), .agg #[.int .i64 s.K, .int .i64 s.F, .int .i64 s.L, .int .i64 s.T, .int .i64 s.I, .string s.b, .string s.a]] w (UDraftB (doRes D s).1.d1 (doRes D s).1.f1 (doRes D s).1.ss1 (doRes D s).1.d2 (doRes D s).1.f2 (doRes D s).1.ss2 (doRes D s).1.st (doRes D s).2 w) := by
  obtain ⟨d1, f1, ss1, d2, f2, ss2, st⟩ := D
  obtain ⟨K, F, L, T, I, bs, as_⟩ := s
  have hD := hS
  obtain ⟨h1, h2, h3⟩ := hS
  simp only at h1 h2 h3 hbz haz
  have hn1 := h1.nb
  have hn2 := h2.nb
  have hn3 := h3.nb
  have hok := fun (W : World) (hW : Below w.heap.size w W) => s_DraftOk (PDraft.mk d1 f1 ss1 d2 f2 ss2 st) B A1 A2 A3 c1 c2 c3 W (hD.below (hW.mono hB)) (Nat.le_trans hB hW.size)
  have hso := fun (W : World) (hW : Below w.heap.size w W) => (s_StepOn d2 f2 B A2 _ c2 ss2 K F L T I bs as_ W (h2.below (hW.mono hB)) (Nat.le_trans hB hW.size) hbz haz).mono fun _ _ h => UCardB.of h
  have hcp := fun (W : World) (hW : Below w.heap.size w W) => u_l37Copy d1 f1 ss1 d2 f2 ss2 st B A1 A2 A3 c1 c2 c3 W (hD.below (hW.mono hB)) (Nat.le_trans hB hW.size)
  have hr : doRes (PDraft.mk d1 f1 ss1 d2 f2 ss2 st) (PStep.mk K F L T I bs as_) = if (draftOk (PDraft.mk d1 f1 ss1 d2 f2 ss2 st) = true ∧ st.length ≠ 40) ∧ (stepRes true d2 f2 ss2 K F L T I bs as_).2 = true then (⟨d1, f1, ss1, d2, f2, (stepRes true d2 f2 ss2 K F L T I bs as_).1, st ++ [(PStep.mk K F L T I bs as_)]⟩, true) else ((PDraft.mk d1 f1 ss1 d2 f2 ss2 st), false) := rfl
  have h40 := fun (h : draftOk (PDraft.mk d1 f1 ss1 d2 f2 ss2 st) = true) => draftOk_st h
  simp only at h40
  unfold draftV
  simp only
  generalize draftOk (PDraft.mk d1 f1 ss1 d2 f2 ss2 st) = dk at hok hr h40
  generalize (stepRes true d2 f2 ss2 K F L T I bs as_).1 = sn at hso hr
  generalize (stepRes true d2 f2 ss2 K F L T I bs as_).2 = sb at hso hr
  generalize doRes (PDraft.mk d1 f1 ss1 d2 f2 ss2 st) (PStep.mk K F L T I bs as_) = res at hr ⊢
  have HOK := hide hok
  have HSO := hide hso
  have HCP := hide hcp
  clear hok hso hcp hD
  obtain ⟨i0, hi0, hz0, hz1, hz2⟩ := info_parts info_stepCells
  cases dk
  · have HR : Hid (res = ((PDraft.mk d1 f1 ss1 d2 f2 ss2 st), false)) := by unfold Hid; rw [hr]; exact if_neg (by simp)
    clear hr h40
    go_enter Tryz.func183, Tryz.ntmps183
    go_wp2_with fail
    have hk_d_w1 := (blk_alloc (blk_alloc (blk_new_at w (.cells #[.int .i64 d1, .int .i64 f1, .slice A1 ss1.length c1, .int .i64 d2, .int .i64 f2, .slice A2 ss2.length c2, .slice A3 st.length c3] 29) (k := w.heap.size) (by simp)) (.cells #[.int .i64 K, .int .i64 F, .int .i64 L, .int .i64 T, .int .i64 I, .string bs, .string as_] 167)) (.cells #[.int .i64 0, .int .i64 0, .slice none 0 0, .int .i64 0, .int .i64 0, .slice none 0 0, .slice none 0 0] 29))
    have hk_s_w1 := (blk_alloc (blk_new_at (w.alloc (.cells #[.int .i64 d1, .int .i64 f1, .slice A1 ss1.length c1, .int .i64 d2, .int .i64 f2, .slice A2 ss2.length c2, .slice A3 st.length c3] 29)) (.cells #[.int .i64 K, .int .i64 F, .int .i64 L, .int .i64 T, .int .i64 I, .string bs, .string as_] 167) (k := w.heap.size + 1) (by simp)) (.cells #[.int .i64 0, .int .i64 0, .slice none 0 0, .int .i64 0, .int .i64 0, .slice none 0 0, .slice none 0 0] 29))
    have hk_r_w1 := (blk_new_at ((w.alloc (.cells #[.int .i64 d1, .int .i64 f1, .slice A1 ss1.length c1, .int .i64 d2, .int .i64 f2, .slice A2 ss2.length c2, .slice A3 st.length c3] 29)).alloc (.cells #[.int .i64 K, .int .i64 F, .int .i64 L, .int .i64 T, .int .i64 I, .string bs, .string as_] 167)) (.cells #[.int .i64 0, .int .i64 0, .slice none 0 0, .int .i64 0, .int .i64 0, .slice none 0 0, .slice none 0 0] 29) (k := w.heap.size + 1 + 1) (by simp))
    have hbw_w1 : Below w.heap.size w (((w.alloc (.cells #[.int .i64 d1, .int .i64 f1, .slice A1 ss1.length c1, .int .i64 d2, .int .i64 f2, .slice A2 ss2.length c2, .slice A3 st.length c3] 29)).alloc (.cells #[.int .i64 K, .int .i64 F, .int .i64 L, .int .i64 T, .int .i64 I, .string bs, .string as_] 167)).alloc (.cells #[.int .i64 0, .int .i64 0, .slice none 0 0, .int .i64 0, .int .i64 0, .slice none 0 0, .slice none 0 0] 29)) := bel
    have hsw_w1 := hbw_w1.size
    have hch_w1 : w.heap.size + 3 ≤ (((w.alloc (.cells #[.int .i64 d1, .int .i64 f1, .slice A1 ss1.length c1, .int .i64 d2, .int .i64 f2, .slice A2 ss2.length c2, .slice A3 st.length c3] 29)).alloc (.cells #[.int .i64 K, .int .i64 F, .int .i64 L, .int .i64 T, .int .i64 I, .string bs, .string as_] 167)).alloc (.cells #[.int .i64 0, .int .i64 0, .slice none 0 0, .int .i64 0, .int .i64 0, .slice none 0 0, .slice none 0 0] 29)).heap.size := (by simp; try omega)
    generalize (((w.alloc (.cells #[.int .i64 d1, .int .i64 f1, .slice A1 ss1.length c1, .int .i64 d2, .int .i64 f2, .slice A2 ss2.length c2, .slice A3 st.length c3] 29)).alloc (.cells #[.int .i64 K, .int .i64 F, .int .i64 L, .int .i64 T, .int .i64 I, .string bs, .string as_] 167)).alloc (.cells #[.int .i64 0, .int .i64 0, .slice none 0 0, .int .i64 0, .int .i64 0, .slice none 0 0, .slice none 0 0] 29)) = w1 at *
    refine (unhide HCP _ hbw_w1).mono ?_
    rintro e w2 ⟨A1_o, c1_o, A2_o, c2_o, A3_o, c3_o, rfl, hon, hb_w2⟩
    have hk_d_w2 := blk_next hk_d_w1 hb_w2
    have hk_s_w2 := blk_next hk_s_w1 hb_w2
    have hk_r_w2 := blk_next hk_r_w1 hb_w2
    have hbw_w2 : Below w.heap.size w w2 := hbw_w1.trans (Below.mono hb_w2 hsw_w1)
    have hsw_w2 := hbw_w2.size
    have hch_w2 : w1.heap.size ≤ w2.heap.size := hb_w2.size
    clear hk_d_w1 hk_s_w1 hk_r_w1 hbw_w1 hsw_w1 hb_w2
    have ho_o_w2 := hon
    clear hon
    obtain ⟨hx0_d, hx1_d, hx2_d, hx3_d, hx4_d, hx5_d, hx6_d, hxl_d⟩ := blk7 hk_d_w2
    go_wp2_with fail
    clear hx0_d hx1_d hx2_d hx3_d hx4_d hx5_d hx6_d hxl_d
    have hk_d_w3 := (blk_alloc hk_d_w2 (.cells #[.int .i64 d1, .int .i64 f1, .slice A1_o ss1.length c1_o, .int .i64 d2, .int .i64 f2, .slice A2_o ss2.length c2_o, .slice A3_o st.length c3_o] 29))
    have hk_s_w3 := (blk_alloc hk_s_w2 (.cells #[.int .i64 d1, .int .i64 f1, .slice A1_o ss1.length c1_o, .int .i64 d2, .int .i64 f2, .slice A2_o ss2.length c2_o, .slice A3_o st.length c3_o] 29))
    have hk_r_w3 := (blk_alloc hk_r_w2 (.cells #[.int .i64 d1, .int .i64 f1, .slice A1_o ss1.length c1_o, .int .i64 d2, .int .i64 f2, .slice A2_o ss2.length c2_o, .slice A3_o st.length c3_o] 29))
    have hk_o_w3 := (blk_new_at w2 (.cells #[.int .i64 d1, .int .i64 f1, .slice A1_o ss1.length c1_o, .int .i64 d2, .int .i64 f2, .slice A2_o ss2.length c2_o, .slice A3_o st.length c3_o] 29) (k := w2.heap.size) (by simp))
    have ho_o_w3 := (ho_o_w2.alloc (.cells #[.int .i64 d1, .int .i64 f1, .slice A1_o ss1.length c1_o, .int .i64 d2, .int .i64 f2, .slice A2_o ss2.length c2_o, .slice A3_o st.length c3_o] 29))
    have hbw_w3 : Below w.heap.size w (w2.alloc (.cells #[.int .i64 d1, .int .i64 f1, .slice A1_o ss1.length c1_o, .int .i64 d2, .int .i64 f2, .slice A2_o ss2.length c2_o, .slice A3_o st.length c3_o] 29)) := bel
    have hsw_w3 := hbw_w3.size
    have hch_w3 : w2.heap.size + 1 ≤ (w2.alloc (.cells #[.int .i64 d1, .int .i64 f1, .slice A1_o ss1.length c1_o, .int .i64 d2, .int .i64 f2, .slice A2_o ss2.length c2_o, .slice A3_o st.length c3_o] 29)).heap.size := (by simp; try omega)
    generalize (w2.alloc (.cells #[.int .i64 d1, .int .i64 f1, .slice A1_o ss1.length c1_o, .int .i64 d2, .int .i64 f2, .slice A2_o ss2.length c2_o, .slice A3_o st.length c3_o] 29)) = w3 at *
    clear hk_d_w2 hk_s_w2 hk_r_w2 ho_o_w2 hbw_w2 hsw_w2
    refine (unhide HOK _ hbw_w3).mono ?_
    rintro e w4 ⟨rfl, hb_w4⟩
    have hk_d_w4 := blk_next hk_d_w3 hb_w4
    have hk_s_w4 := blk_next hk_s_w3 hb_w4
    have hk_r_w4 := blk_next hk_r_w3 hb_w4
    have hk_o_w4 := blk_next hk_o_w3 hb_w4
    have ho_o_w4 := ho_o_w3.below hb_w4
    have hbw_w4 : Below w.heap.size w w4 := hbw_w3.trans (Below.mono hb_w4 hsw_w3)
    have hsw_w4 := hbw_w4.size
    have hch_w4 : w3.heap.size ≤ w4.heap.size := hb_w4.size
    clear hk_d_w3 hk_s_w3 hk_r_w3 hk_o_w3 ho_o_w3 hbw_w3 hsw_w3 hb_w4
    obtain ⟨hx0_r, hx1_r, hx2_r, hx3_r, hx4_r, hx5_r, hx6_r, hxl_r⟩ := blk7 hk_r_w4
    have hfz0_r := (blk_cells hk_r_w4 0).2
    have hfz1_r := (blk_cells hk_r_w4 1).2
    have hfz2_r := (blk_cells hk_r_w4 2).2
    have hfz3_r := (blk_cells hk_r_w4 3).2
    have hfz4_r := (blk_cells hk_r_w4 4).2
    have hfz5_r := (blk_cells hk_r_w4 5).2
    have hfz6_r := (blk_cells hk_r_w4 6).2
    obtain ⟨hx0_o, hx1_o, hx2_o, hx3_o, hx4_o, hx5_o, hx6_o, hxl_o⟩ := blk7 hk_o_w4
    have hfz0_o := (blk_cells hk_o_w4 0).2
    have hfz1_o := (blk_cells hk_o_w4 1).2
    have hfz2_o := (blk_cells hk_o_w4 2).2
    have hfz3_o := (blk_cells hk_o_w4 3).2
    have hfz4_o := (blk_cells hk_o_w4 4).2
    have hfz5_o := (blk_cells hk_o_w4 5).2
    have hfz6_o := (blk_cells hk_o_w4 6).2
    go_wp2
    refine bodyPost_ret (v := .tuple #[.agg #[.int .i64 d1, .int .i64 f1, .slice A1_o ss1.length c1_o, .int .i64 d2, .int .i64 f2, .slice A2_o ss2.length c2_o, .slice A3_o st.length c3_o], .bool false]) (by simp [results, Tryz.results183, go_sem, *]) rfl ?_
    have hbx_d := boxAt_of hk_d_w4
    have hbx_r := boxAt_of hk_r_w4
    have hbx_o := boxAt_of hk_o_w4
    have hr2 := HR.out; subst hr2
    exact ⟨A1_o, c1_o, A2_o, c2_o, A3_o, c3_o, rfl, (ho_o_w4.boxy (by repeat (first | (with_reducible exact Boxy.refl _) | (with_reducible refine Boxy.drew ?_) | (with_reducible refine Boxy.drewN ?_ _) | (with_reducible refine Boxy.alloc ?_ _) | ((with_reducible refine Boxy.setCell ?_ ?hbs _); (case hbs => first | (with_reducible exact .inl (by assumption)) | exact .inl (by assumption) | exact .inr (by simp) | exact .inr (by simp; omega)))))).wide (by omega) (by simp; try omega), (((((((hbw_w4.setCell (p := ⟨w.heap.size + 1 + 1, 0, none⟩) (by show w.heap.size ≤ w.heap.size + 1 + 1; omega) _).setCell (p := ⟨w.heap.size + 1 + 1, 1, none⟩) (by show w.heap.size ≤ w.heap.size + 1 + 1; omega) _).setCell (p := ⟨w.heap.size + 1 + 1, 2, none⟩) (by show w.heap.size ≤ w.heap.size + 1 + 1; omega) _).setCell (p := ⟨w.heap.size + 1 + 1, 3, none⟩) (by show w.heap.size ≤ w.heap.size + 1 + 1; omega) _).setCell (p := ⟨w.heap.size + 1 + 1, 4, none⟩) (by show w.heap.size ≤ w.heap.size + 1 + 1; omega) _).setCell (p := ⟨w.heap.size + 1 + 1, 5, none⟩) (by show w.heap.size ≤ w.heap.size + 1 + 1; omega) _).setCell (p := ⟨w.heap.size + 1 + 1, 6, none⟩) (by show w.heap.size ≤ w.heap.size + 1 + 1; omega) _)⟩
  · have h4 := h40 rfl
    cases he : ((st.length : Int) == 40)
    · have hne : st.length ≠ 40 := by intro h; rw [h] at he; simp at he
      cases sb
      · have HR : Hid (res = ((PDraft.mk d1 f1 ss1 d2 f2 ss2 st), false)) := by unfold Hid; rw [hr]; exact if_neg (by simp)
        clear hr h40 hne
        go_enter Tryz.func183, Tryz.ntmps183
        go_wp2_with fail
        have hk_d_w1 := (blk_alloc (blk_alloc (blk_new_at w (.cells #[.int .i64 d1, .int .i64 f1, .slice A1 ss1.length c1, .int .i64 d2, .int .i64 f2, .slice A2 ss2.length c2, .slice A3 st.length c3] 29) (k := w.heap.size) (by simp)) (.cells #[.int .i64 K, .int .i64 F, .int .i64 L, .int .i64 T, .int .i64 I, .string bs, .string as_] 167)) (.cells #[.int .i64 0, .int .i64 0, .slice none 0 0, .int .i64 0, .int .i64 0, .slice none 0 0, .slice none 0 0] 29))
        have hk_s_w1 := (blk_alloc (blk_new_at (w.alloc (.cells #[.int .i64 d1, .int .i64 f1, .slice A1 ss1.length c1, .int .i64 d2, .int .i64 f2, .slice A2 ss2.length c2, .slice A3 st.length c3] 29)) (.cells #[.int .i64 K, .int .i64 F, .int .i64 L, .int .i64 T, .int .i64 I, .string bs, .string as_] 167) (k := w.heap.size + 1) (by simp)) (.cells #[.int .i64 0, .int .i64 0, .slice none 0 0, .int .i64 0, .int .i64 0, .slice none 0 0, .slice none 0 0] 29))
        have hk_r_w1 := (blk_new_at ((w.alloc (.cells #[.int .i64 d1, .int .i64 f1, .slice A1 ss1.length c1, .int .i64 d2, .int .i64 f2, .slice A2 ss2.length c2, .slice A3 st.length c3] 29)).alloc (.cells #[.int .i64 K, .int .i64 F, .int .i64 L, .int .i64 T, .int .i64 I, .string bs, .string as_] 167)) (.cells #[.int .i64 0, .int .i64 0, .slice none 0 0, .int .i64 0, .int .i64 0, .slice none 0 0, .slice none 0 0] 29) (k := w.heap.size + 1 + 1) (by simp))
        have hbw_w1 : Below w.heap.size w (((w.alloc (.cells #[.int .i64 d1, .int .i64 f1, .slice A1 ss1.length c1, .int .i64 d2, .int .i64 f2, .slice A2 ss2.length c2, .slice A3 st.length c3] 29)).alloc (.cells #[.int .i64 K, .int .i64 F, .int .i64 L, .int .i64 T, .int .i64 I, .string bs, .string as_] 167)).alloc (.cells #[.int .i64 0, .int .i64 0, .slice none 0 0, .int .i64 0, .int .i64 0, .slice none 0 0, .slice none 0 0] 29)) := bel
        have hsw_w1 := hbw_w1.size
        have hch_w1 : w.heap.size + 3 ≤ (((w.alloc (.cells #[.int .i64 d1, .int .i64 f1, .slice A1 ss1.length c1, .int .i64 d2, .int .i64 f2, .slice A2 ss2.length c2, .slice A3 st.length c3] 29)).alloc (.cells #[.int .i64 K, .int .i64 F, .int .i64 L, .int .i64 T, .int .i64 I, .string bs, .string as_] 167)).alloc (.cells #[.int .i64 0, .int .i64 0, .slice none 0 0, .int .i64 0, .int .i64 0, .slice none 0 0, .slice none 0 0] 29)).heap.size := (by simp; try omega)
        generalize (((w.alloc (.cells #[.int .i64 d1, .int .i64 f1, .slice A1 ss1.length c1, .int .i64 d2, .int .i64 f2, .slice A2 ss2.length c2, .slice A3 st.length c3] 29)).alloc (.cells #[.int .i64 K, .int .i64 F, .int .i64 L, .int .i64 T, .int .i64 I, .string bs, .string as_] 167)).alloc (.cells #[.int .i64 0, .int .i64 0, .slice none 0 0, .int .i64 0, .int .i64 0, .slice none 0 0, .slice none 0 0] 29)) = w1 at *
        refine (unhide HCP _ hbw_w1).mono ?_
        rintro e w2 ⟨A1_o, c1_o, A2_o, c2_o, A3_o, c3_o, rfl, hon, hb_w2⟩
        have hk_d_w2 := blk_next hk_d_w1 hb_w2
        have hk_s_w2 := blk_next hk_s_w1 hb_w2
        have hk_r_w2 := blk_next hk_r_w1 hb_w2
        have hbw_w2 : Below w.heap.size w w2 := hbw_w1.trans (Below.mono hb_w2 hsw_w1)
        have hsw_w2 := hbw_w2.size
        have hch_w2 : w1.heap.size ≤ w2.heap.size := hb_w2.size
        clear hk_d_w1 hk_s_w1 hk_r_w1 hbw_w1 hsw_w1 hb_w2
        have ho_o_w2 := hon
        clear hon
        obtain ⟨hx0_d, hx1_d, hx2_d, hx3_d, hx4_d, hx5_d, hx6_d, hxl_d⟩ := blk7 hk_d_w2
        go_wp2_with fail
        clear hx0_d hx1_d hx2_d hx3_d hx4_d hx5_d hx6_d hxl_d
        have hk_d_w3 := (blk_alloc hk_d_w2 (.cells #[.int .i64 d1, .int .i64 f1, .slice A1_o ss1.length c1_o, .int .i64 d2, .int .i64 f2, .slice A2_o ss2.length c2_o, .slice A3_o st.length c3_o] 29))
        have hk_s_w3 := (blk_alloc hk_s_w2 (.cells #[.int .i64 d1, .int .i64 f1, .slice A1_o ss1.length c1_o, .int .i64 d2, .int .i64 f2, .slice A2_o ss2.length c2_o, .slice A3_o st.length c3_o] 29))
        have hk_r_w3 := (blk_alloc hk_r_w2 (.cells #[.int .i64 d1, .int .i64 f1, .slice A1_o ss1.length c1_o, .int .i64 d2, .int .i64 f2, .slice A2_o ss2.length c2_o, .slice A3_o st.length c3_o] 29))
        have hk_o_w3 := (blk_new_at w2 (.cells #[.int .i64 d1, .int .i64 f1, .slice A1_o ss1.length c1_o, .int .i64 d2, .int .i64 f2, .slice A2_o ss2.length c2_o, .slice A3_o st.length c3_o] 29) (k := w2.heap.size) (by simp))
        have ho_o_w3 := (ho_o_w2.alloc (.cells #[.int .i64 d1, .int .i64 f1, .slice A1_o ss1.length c1_o, .int .i64 d2, .int .i64 f2, .slice A2_o ss2.length c2_o, .slice A3_o st.length c3_o] 29))
        have hbw_w3 : Below w.heap.size w (w2.alloc (.cells #[.int .i64 d1, .int .i64 f1, .slice A1_o ss1.length c1_o, .int .i64 d2, .int .i64 f2, .slice A2_o ss2.length c2_o, .slice A3_o st.length c3_o] 29)) := bel
        have hsw_w3 := hbw_w3.size
        have hch_w3 : w2.heap.size + 1 ≤ (w2.alloc (.cells #[.int .i64 d1, .int .i64 f1, .slice A1_o ss1.length c1_o, .int .i64 d2, .int .i64 f2, .slice A2_o ss2.length c2_o, .slice A3_o st.length c3_o] 29)).heap.size := (by simp; try omega)
        generalize (w2.alloc (.cells #[.int .i64 d1, .int .i64 f1, .slice A1_o ss1.length c1_o, .int .i64 d2, .int .i64 f2, .slice A2_o ss2.length c2_o, .slice A3_o st.length c3_o] 29)) = w3 at *
        clear hk_d_w2 hk_s_w2 hk_r_w2 ho_o_w2 hbw_w2 hsw_w2
        refine (unhide HOK _ hbw_w3).mono ?_
        rintro e w4 ⟨rfl, hb_w4⟩
        have hk_d_w4 := blk_next hk_d_w3 hb_w4
        have hk_s_w4 := blk_next hk_s_w3 hb_w4
        have hk_r_w4 := blk_next hk_r_w3 hb_w4
        have hk_o_w4 := blk_next hk_o_w3 hb_w4
        have ho_o_w4 := ho_o_w3.below hb_w4
        have hbw_w4 : Below w.heap.size w w4 := hbw_w3.trans (Below.mono hb_w4 hsw_w3)
        have hsw_w4 := hbw_w4.size
        have hch_w4 : w3.heap.size ≤ w4.heap.size := hb_w4.size
        clear hk_d_w3 hk_s_w3 hk_r_w3 hk_o_w3 ho_o_w3 hbw_w3 hsw_w3 hb_w4
        obtain ⟨hx0_d, hx1_d, hx2_d, hx3_d, hx4_d, hx5_d, hx6_d, hxl_d⟩ := blk7 hk_d_w4
        obtain ⟨hx0_s, hx1_s, hx2_s, hx3_s, hx4_s, hx5_s, hx6_s, hxl_s⟩ := blk7 hk_s_w4
        go_wp2_with fail
        refine (unhide HSO _ hbw_w4).mono ?_
        rintro e w5 ⟨A_n, c_n, rfl, hon, hb_w5⟩
        clear hx0_d hx1_d hx2_d hx3_d hx4_d hx5_d hx6_d hxl_d hx0_s hx1_s hx2_s hx3_s hx4_s hx5_s hx6_s hxl_s
        have hk_d_w5 := blk_next hk_d_w4 hb_w5
        have hk_s_w5 := blk_next hk_s_w4 hb_w5
        have hk_r_w5 := blk_next hk_r_w4 hb_w5
        have hk_o_w5 := blk_next hk_o_w4 hb_w5
        have ho_o_w5 := ho_o_w4.below hb_w5
        have hbw_w5 : Below w.heap.size w w5 := hbw_w4.trans (Below.mono hb_w5 hsw_w4)
        have hsw_w5 := hbw_w5.size
        have hch_w5 : w4.heap.size ≤ w5.heap.size := hb_w5.size
        clear hk_d_w4 hk_s_w4 hk_r_w4 hk_o_w4 ho_o_w4 hbw_w4 hsw_w4 hb_w5
        have ho_n_w5 := hon
        clear hon
        go_upto_region 5 with fail
        have hk_d_w6 := (blk_alloc hk_d_w5 (.cells #[.int .i64 d2, .int .i64 f2, .slice A_n sn.length c_n] 26))
        have hk_s_w6 := (blk_alloc hk_s_w5 (.cells #[.int .i64 d2, .int .i64 f2, .slice A_n sn.length c_n] 26))
        have hk_r_w6 := (blk_alloc hk_r_w5 (.cells #[.int .i64 d2, .int .i64 f2, .slice A_n sn.length c_n] 26))
        have hk_o_w6 := (blk_alloc hk_o_w5 (.cells #[.int .i64 d2, .int .i64 f2, .slice A_n sn.length c_n] 26))
        have hk_n_w6 := (blk_new_at w5 (.cells #[.int .i64 d2, .int .i64 f2, .slice A_n sn.length c_n] 26) (k := w5.heap.size) (by simp))
        have ho_o_w6 := (ho_o_w5.alloc (.cells #[.int .i64 d2, .int .i64 f2, .slice A_n sn.length c_n] 26))
        have ho_n_w6 := (ho_n_w5.alloc (.cells #[.int .i64 d2, .int .i64 f2, .slice A_n sn.length c_n] 26))
        have hbw_w6 : Below w.heap.size w (w5.alloc (.cells #[.int .i64 d2, .int .i64 f2, .slice A_n sn.length c_n] 26)) := bel
        have hsw_w6 := hbw_w6.size
        have hch_w6 : w5.heap.size + 1 ≤ (w5.alloc (.cells #[.int .i64 d2, .int .i64 f2, .slice A_n sn.length c_n] 26)).heap.size := (by simp; try omega)
        generalize (w5.alloc (.cells #[.int .i64 d2, .int .i64 f2, .slice A_n sn.length c_n] 26)) = w6 at *
        clear hk_d_w5 hk_s_w5 hk_r_w5 hk_o_w5 ho_o_w5 ho_n_w5 hbw_w5 hsw_w5
        obtain ⟨hx0_r, hx1_r, hx2_r, hx3_r, hx4_r, hx5_r, hx6_r, hxl_r⟩ := blk7 hk_r_w6
        have hfz0_r := (blk_cells hk_r_w6 0).2
        have hfz1_r := (blk_cells hk_r_w6 1).2
        have hfz2_r := (blk_cells hk_r_w6 2).2
        have hfz3_r := (blk_cells hk_r_w6 3).2
        have hfz4_r := (blk_cells hk_r_w6 4).2
        have hfz5_r := (blk_cells hk_r_w6 5).2
        have hfz6_r := (blk_cells hk_r_w6 6).2
        obtain ⟨hx0_o, hx1_o, hx2_o, hx3_o, hx4_o, hx5_o, hx6_o, hxl_o⟩ := blk7 hk_o_w6
        have hfz0_o := (blk_cells hk_o_w6 0).2
        have hfz1_o := (blk_cells hk_o_w6 1).2
        have hfz2_o := (blk_cells hk_o_w6 2).2
        have hfz3_o := (blk_cells hk_o_w6 3).2
        have hfz4_o := (blk_cells hk_o_w6 4).2
        have hfz5_o := (blk_cells hk_o_w6 5).2
        have hfz6_o := (blk_cells hk_o_w6 6).2
        go_wp2
        refine bodyPost_ret (v := .tuple #[.agg #[.int .i64 d1, .int .i64 f1, .slice A1_o ss1.length c1_o, .int .i64 d2, .int .i64 f2, .slice A2_o ss2.length c2_o, .slice A3_o st.length c3_o], .bool false]) (by simp [results, Tryz.results183, go_sem, *]) rfl ?_
        have hbx_d := boxAt_of hk_d_w6
        have hbx_r := boxAt_of hk_r_w6
        have hbx_o := boxAt_of hk_o_w6
        have hbx_n := boxAt_of hk_n_w6
        have hr2 := HR.out; subst hr2
        exact ⟨A1_o, c1_o, A2_o, c2_o, A3_o, c3_o, rfl, (ho_o_w6.boxy (by repeat (first | (with_reducible exact Boxy.refl _) | (with_reducible refine Boxy.drew ?_) | (with_reducible refine Boxy.drewN ?_ _) | (with_reducible refine Boxy.alloc ?_ _) | ((with_reducible refine Boxy.setCell ?_ ?hbs _); (case hbs => first | (with_reducible exact .inl (by assumption)) | exact .inl (by assumption) | exact .inr (by simp) | exact .inr (by simp; omega)))))).wide (by omega) (by simp; try omega), (((((((hbw_w6.setCell (p := ⟨w.heap.size + 1 + 1, 0, none⟩) (by show w.heap.size ≤ w.heap.size + 1 + 1; omega) _).setCell (p := ⟨w.heap.size + 1 + 1, 1, none⟩) (by show w.heap.size ≤ w.heap.size + 1 + 1; omega) _).setCell (p := ⟨w.heap.size + 1 + 1, 2, none⟩) (by show w.heap.size ≤ w.heap.size + 1 + 1; omega) _).setCell (p := ⟨w.heap.size + 1 + 1, 3, none⟩) (by show w.heap.size ≤ w.heap.size + 1 + 1; omega) _).setCell (p := ⟨w.heap.size + 1 + 1, 4, none⟩) (by show w.heap.size ≤ w.heap.size + 1 + 1; omega) _).setCell (p := ⟨w.heap.size + 1 + 1, 5, none⟩) (by show w.heap.size ≤ w.heap.size + 1 + 1; omega) _).setCell (p := ⟨w.heap.size + 1 + 1, 6, none⟩) (by show w.heap.size ≤ w.heap.size + 1 + 1; omega) _)⟩
      · have HR : Hid (res = (⟨d1, f1, ss1, d2, f2, sn, st ++ [(PStep.mk K F L T I bs as_)]⟩, true)) := by unfold Hid; rw [hr]; exact if_pos ⟨⟨rfl, hne⟩, rfl⟩
        clear hr h40 hne
        go_enter Tryz.func183, Tryz.ntmps183
        go_wp2_with fail
        have hk_d_w1 := (blk_alloc (blk_alloc (blk_new_at w (.cells #[.int .i64 d1, .int .i64 f1, .slice A1 ss1.length c1, .int .i64 d2, .int .i64 f2, .slice A2 ss2.length c2, .slice A3 st.length c3] 29) (k := w.heap.size) (by simp)) (.cells #[.int .i64 K, .int .i64 F, .int .i64 L, .int .i64 T, .int .i64 I, .string bs, .string as_] 167)) (.cells #[.int .i64 0, .int .i64 0, .slice none 0 0, .int .i64 0, .int .i64 0, .slice none 0 0, .slice none 0 0] 29))
        have hk_s_w1 := (blk_alloc (blk_new_at (w.alloc (.cells #[.int .i64 d1, .int .i64 f1, .slice A1 ss1.length c1, .int .i64 d2, .int .i64 f2, .slice A2 ss2.length c2, .slice A3 st.length c3] 29)) (.cells #[.int .i64 K, .int .i64 F, .int .i64 L, .int .i64 T, .int .i64 I, .string bs, .string as_] 167) (k := w.heap.size + 1) (by simp)) (.cells #[.int .i64 0, .int .i64 0, .slice none 0 0, .int .i64 0, .int .i64 0, .slice none 0 0, .slice none 0 0] 29))
        have hk_r_w1 := (blk_new_at ((w.alloc (.cells #[.int .i64 d1, .int .i64 f1, .slice A1 ss1.length c1, .int .i64 d2, .int .i64 f2, .slice A2 ss2.length c2, .slice A3 st.length c3] 29)).alloc (.cells #[.int .i64 K, .int .i64 F, .int .i64 L, .int .i64 T, .int .i64 I, .string bs, .string as_] 167)) (.cells #[.int .i64 0, .int .i64 0, .slice none 0 0, .int .i64 0, .int .i64 0, .slice none 0 0, .slice none 0 0] 29) (k := w.heap.size + 1 + 1) (by simp))
        have hbw_w1 : Below w.heap.size w (((w.alloc (.cells #[.int .i64 d1, .int .i64 f1, .slice A1 ss1.length c1, .int .i64 d2, .int .i64 f2, .slice A2 ss2.length c2, .slice A3 st.length c3] 29)).alloc (.cells #[.int .i64 K, .int .i64 F, .int .i64 L, .int .i64 T, .int .i64 I, .string bs, .string as_] 167)).alloc (.cells #[.int .i64 0, .int .i64 0, .slice none 0 0, .int .i64 0, .int .i64 0, .slice none 0 0, .slice none 0 0] 29)) := bel
        have hsw_w1 := hbw_w1.size
        have hch_w1 : w.heap.size + 3 ≤ (((w.alloc (.cells #[.int .i64 d1, .int .i64 f1, .slice A1 ss1.length c1, .int .i64 d2, .int .i64 f2, .slice A2 ss2.length c2, .slice A3 st.length c3] 29)).alloc (.cells #[.int .i64 K, .int .i64 F, .int .i64 L, .int .i64 T, .int .i64 I, .string bs, .string as_] 167)).alloc (.cells #[.int .i64 0, .int .i64 0, .slice none 0 0, .int .i64 0, .int .i64 0, .slice none 0 0, .slice none 0 0] 29)).heap.size := (by simp; try omega)
        generalize (((w.alloc (.cells #[.int .i64 d1, .int .i64 f1, .slice A1 ss1.length c1, .int .i64 d2, .int .i64 f2, .slice A2 ss2.length c2, .slice A3 st.length c3] 29)).alloc (.cells #[.int .i64 K, .int .i64 F, .int .i64 L, .int .i64 T, .int .i64 I, .string bs, .string as_] 167)).alloc (.cells #[.int .i64 0, .int .i64 0, .slice none 0 0, .int .i64 0, .int .i64 0, .slice none 0 0, .slice none 0 0] 29)) = w1 at *
        refine (unhide HCP _ hbw_w1).mono ?_
        rintro e w2 ⟨A1_o, c1_o, A2_o, c2_o, A3_o, c3_o, rfl, hon, hb_w2⟩
        have hk_d_w2 := blk_next hk_d_w1 hb_w2
        have hk_s_w2 := blk_next hk_s_w1 hb_w2
        have hk_r_w2 := blk_next hk_r_w1 hb_w2
        have hbw_w2 : Below w.heap.size w w2 := hbw_w1.trans (Below.mono hb_w2 hsw_w1)
        have hsw_w2 := hbw_w2.size
        have hch_w2 : w1.heap.size ≤ w2.heap.size := hb_w2.size
        clear hk_d_w1 hk_s_w1 hk_r_w1 hbw_w1 hsw_w1 hb_w2
        have ho_o_w2 := hon
        clear hon
        obtain ⟨hx0_d, hx1_d, hx2_d, hx3_d, hx4_d, hx5_d, hx6_d, hxl_d⟩ := blk7 hk_d_w2
        go_wp2_with fail
        clear hx0_d hx1_d hx2_d hx3_d hx4_d hx5_d hx6_d hxl_d
        have hk_d_w3 := (blk_alloc hk_d_w2 (.cells #[.int .i64 d1, .int .i64 f1, .slice A1_o ss1.length c1_o, .int .i64 d2, .int .i64 f2, .slice A2_o ss2.length c2_o, .slice A3_o st.length c3_o] 29))
        have hk_s_w3 := (blk_alloc hk_s_w2 (.cells #[.int .i64 d1, .int .i64 f1, .slice A1_o ss1.length c1_o, .int .i64 d2, .int .i64 f2, .slice A2_o ss2.length c2_o, .slice A3_o st.length c3_o] 29))
        have hk_r_w3 := (blk_alloc hk_r_w2 (.cells #[.int .i64 d1, .int .i64 f1, .slice A1_o ss1.length c1_o, .int .i64 d2, .int .i64 f2, .slice A2_o ss2.length c2_o, .slice A3_o st.length c3_o] 29))
        have hk_o_w3 := (blk_new_at w2 (.cells #[.int .i64 d1, .int .i64 f1, .slice A1_o ss1.length c1_o, .int .i64 d2, .int .i64 f2, .slice A2_o ss2.length c2_o, .slice A3_o st.length c3_o] 29) (k := w2.heap.size) (by simp))
        have ho_o_w3 := (ho_o_w2.alloc (.cells #[.int .i64 d1, .int .i64 f1, .slice A1_o ss1.length c1_o, .int .i64 d2, .int .i64 f2, .slice A2_o ss2.length c2_o, .slice A3_o st.length c3_o] 29))
        have hbw_w3 : Below w.heap.size w (w2.alloc (.cells #[.int .i64 d1, .int .i64 f1, .slice A1_o ss1.length c1_o, .int .i64 d2, .int .i64 f2, .slice A2_o ss2.length c2_o, .slice A3_o st.length c3_o] 29)) := bel
        have hsw_w3 := hbw_w3.size
        have hch_w3 : w2.heap.size + 1 ≤ (w2.alloc (.cells #[.int .i64 d1, .int .i64 f1, .slice A1_o ss1.length c1_o, .int .i64 d2, .int .i64 f2, .slice A2_o ss2.length c2_o, .slice A3_o st.length c3_o] 29)).heap.size := (by simp; try omega)
        generalize (w2.alloc (.cells #[.int .i64 d1, .int .i64 f1, .slice A1_o ss1.length c1_o, .int .i64 d2, .int .i64 f2, .slice A2_o ss2.length c2_o, .slice A3_o st.length c3_o] 29)) = w3 at *
        clear hk_d_w2 hk_s_w2 hk_r_w2 ho_o_w2 hbw_w2 hsw_w2
        refine (unhide HOK _ hbw_w3).mono ?_
        rintro e w4 ⟨rfl, hb_w4⟩
        have hk_d_w4 := blk_next hk_d_w3 hb_w4
        have hk_s_w4 := blk_next hk_s_w3 hb_w4
        have hk_r_w4 := blk_next hk_r_w3 hb_w4
        have hk_o_w4 := blk_next hk_o_w3 hb_w4
        have ho_o_w4 := ho_o_w3.below hb_w4
        have hbw_w4 : Below w.heap.size w w4 := hbw_w3.trans (Below.mono hb_w4 hsw_w3)
        have hsw_w4 := hbw_w4.size
        have hch_w4 : w3.heap.size ≤ w4.heap.size := hb_w4.size
        clear hk_d_w3 hk_s_w3 hk_r_w3 hk_o_w3 ho_o_w3 hbw_w3 hsw_w3 hb_w4
        obtain ⟨hx0_d, hx1_d, hx2_d, hx3_d, hx4_d, hx5_d, hx6_d, hxl_d⟩ := blk7 hk_d_w4
        obtain ⟨hx0_s, hx1_s, hx2_s, hx3_s, hx4_s, hx5_s, hx6_s, hxl_s⟩ := blk7 hk_s_w4
        go_wp2_with fail
        refine (unhide HSO _ hbw_w4).mono ?_
        rintro e w5 ⟨A_n, c_n, rfl, hon, hb_w5⟩
        clear hx0_d hx1_d hx2_d hx3_d hx4_d hx5_d hx6_d hxl_d hx0_s hx1_s hx2_s hx3_s hx4_s hx5_s hx6_s hxl_s
        have hk_d_w5 := blk_next hk_d_w4 hb_w5
        have hk_s_w5 := blk_next hk_s_w4 hb_w5
        have hk_r_w5 := blk_next hk_r_w4 hb_w5
        have hk_o_w5 := blk_next hk_o_w4 hb_w5
        have ho_o_w5 := ho_o_w4.below hb_w5
        have hbw_w5 : Below w.heap.size w w5 := hbw_w4.trans (Below.mono hb_w5 hsw_w4)
        have hsw_w5 := hbw_w5.size
        have hch_w5 : w4.heap.size ≤ w5.heap.size := hb_w5.size
        clear hk_d_w4 hk_s_w4 hk_r_w4 hk_o_w4 ho_o_w4 hbw_w4 hsw_w4 hb_w5
        have ho_n_w5 := hon
        clear hon
        obtain ⟨hx0_o, hx1_o, hx2_o, hx3_o, hx4_o, hx5_o, hx6_o, hxl_o⟩ := blk7 hk_o_w5
        have hfz0_o := (blk_cells hk_o_w5 0).2
        have hfz1_o := (blk_cells hk_o_w5 1).2
        have hfz2_o := (blk_cells hk_o_w5 2).2
        have hfz3_o := (blk_cells hk_o_w5 3).2
        have hfz4_o := (blk_cells hk_o_w5 4).2
        have hfz5_o := (blk_cells hk_o_w5 5).2
        have hfz6_o := (blk_cells hk_o_w5 6).2
        go_upto_region 8 with fail
        clear hx0_o hx1_o hx2_o hx3_o hx4_o hx5_o hx6_o hxl_o hfz0_o hfz1_o hfz2_o hfz3_o hfz4_o hfz5_o hfz6_o
        have hbx_d := boxAt_of hk_d_w5
        have hbx_r := boxAt_of hk_r_w5
        have hbx_o := boxAt_of hk_o_w5
        have hgl_d := blk_lt hk_d_w5
        have hgl_s := blk_lt hk_s_w5
        have hgl_r := blk_lt hk_r_w5
        have hgl_o := blk_lt hk_o_w5
        have hk_d_w6 := (blk_alloc (blk_other (p := ⟨w2.heap.size, 5, none⟩) (blk_other (p := ⟨w2.heap.size, 4, none⟩) (blk_other (p := ⟨w2.heap.size, 3, none⟩) hk_d_w5 (by show _ ≠ w2.heap.size; omega) (.int .i64 d2)) (by show _ ≠ w2.heap.size; omega) (.int .i64 f2)) (by show _ ≠ w2.heap.size; omega) (.slice A_n sn.length c_n)) (.cells #[.int .i64 d2, .int .i64 f2, .slice A_n sn.length c_n] 26))
        have hk_s_w6 := (blk_alloc (blk_other (p := ⟨w2.heap.size, 5, none⟩) (blk_other (p := ⟨w2.heap.size, 4, none⟩) (blk_other (p := ⟨w2.heap.size, 3, none⟩) hk_s_w5 (by show _ ≠ w2.heap.size; omega) (.int .i64 d2)) (by show _ ≠ w2.heap.size; omega) (.int .i64 f2)) (by show _ ≠ w2.heap.size; omega) (.slice A_n sn.length c_n)) (.cells #[.int .i64 d2, .int .i64 f2, .slice A_n sn.length c_n] 26))
        have hk_r_w6 := (blk_alloc (blk_other (p := ⟨w2.heap.size, 5, none⟩) (blk_other (p := ⟨w2.heap.size, 4, none⟩) (blk_other (p := ⟨w2.heap.size, 3, none⟩) hk_r_w5 (by show _ ≠ w2.heap.size; omega) (.int .i64 d2)) (by show _ ≠ w2.heap.size; omega) (.int .i64 f2)) (by show _ ≠ w2.heap.size; omega) (.slice A_n sn.length c_n)) (.cells #[.int .i64 d2, .int .i64 f2, .slice A_n sn.length c_n] 26))
        have hk_o_w6 : ((((w5.setCell ⟨w2.heap.size, 3, none⟩ (.int .i64 d2)).setCell ⟨w2.heap.size, 4, none⟩ (.int .i64 f2)).setCell ⟨w2.heap.size, 5, none⟩ (.slice A_n sn.length c_n)).alloc (.cells #[.int .i64 d2, .int .i64 f2, .slice A_n sn.length c_n] 26)).heap[w2.heap.size]? = some (.cells #[.int .i64 d1, .int .i64 f1, .slice A1_o ss1.length c1_o, .int .i64 d2, .int .i64 f2, .slice A_n sn.length c_n, .slice A3_o st.length c3_o] 29 (0, 0)) := by simpa using (blk_alloc (blk_set (blk_set (blk_set hk_o_w5 3 (.int .i64 d2)) 4 (.int .i64 f2)) 5 (.slice A_n sn.length c_n)) (.cells #[.int .i64 d2, .int .i64 f2, .slice A_n sn.length c_n] 26))
        have hk_n_w6 := (blk_new_at (((w5.setCell ⟨w2.heap.size, 3, none⟩ (.int .i64 d2)).setCell ⟨w2.heap.size, 4, none⟩ (.int .i64 f2)).setCell ⟨w2.heap.size, 5, none⟩ (.slice A_n sn.length c_n)) (.cells #[.int .i64 d2, .int .i64 f2, .slice A_n sn.length c_n] 26) (k := w5.heap.size) (by simp))
        have ho_o_w6 := (ho_o_w5.boxy (w' := ((((w5.setCell ⟨w2.heap.size, 3, none⟩ (.int .i64 d2)).setCell ⟨w2.heap.size, 4, none⟩ (.int .i64 f2)).setCell ⟨w2.heap.size, 5, none⟩ (.slice A_n sn.length c_n)).alloc (.cells #[.int .i64 d2, .int .i64 f2, .slice A_n sn.length c_n] 26))) (by repeat (first | (with_reducible exact Boxy.refl _) | (with_reducible refine Boxy.drew ?_) | (with_reducible refine Boxy.drewN ?_ _) | (with_reducible refine Boxy.alloc ?_ _) | ((with_reducible refine Boxy.setCell ?_ ?hbs _); (case hbs => first | (with_reducible exact .inl (by assumption)) | exact .inl (by assumption) | exact .inr (by simp) | exact .inr (by simp; omega))))))
        have ho_n_w6 := (ho_n_w5.boxy (w' := ((((w5.setCell ⟨w2.heap.size, 3, none⟩ (.int .i64 d2)).setCell ⟨w2.heap.size, 4, none⟩ (.int .i64 f2)).setCell ⟨w2.heap.size, 5, none⟩ (.slice A_n sn.length c_n)).alloc (.cells #[.int .i64 d2, .int .i64 f2, .slice A_n sn.length c_n] 26))) (by repeat (first | (with_reducible exact Boxy.refl _) | (with_reducible refine Boxy.drew ?_) | (with_reducible refine Boxy.drewN ?_ _) | (with_reducible refine Boxy.alloc ?_ _) | ((with_reducible refine Boxy.setCell ?_ ?hbs _); (case hbs => first | (with_reducible exact .inl (by assumption)) | exact .inl (by assumption) | exact .inr (by simp) | exact .inr (by simp; omega))))))
        have hbw_w6 : Below w.heap.size w ((((w5.setCell ⟨w2.heap.size, 3, none⟩ (.int .i64 d2)).setCell ⟨w2.heap.size, 4, none⟩ (.int .i64 f2)).setCell ⟨w2.heap.size, 5, none⟩ (.slice A_n sn.length c_n)).alloc (.cells #[.int .i64 d2, .int .i64 f2, .slice A_n sn.length c_n] 26)) := bel
        have hsw_w6 := hbw_w6.size
        have hch_w6 : w5.heap.size + 1 ≤ ((((w5.setCell ⟨w2.heap.size, 3, none⟩ (.int .i64 d2)).setCell ⟨w2.heap.size, 4, none⟩ (.int .i64 f2)).setCell ⟨w2.heap.size, 5, none⟩ (.slice A_n sn.length c_n)).alloc (.cells #[.int .i64 d2, .int .i64 f2, .slice A_n sn.length c_n] 26)).heap.size := (by simp; try omega)
        clear hbx_d hbx_r hbx_o
        generalize ((((w5.setCell ⟨w2.heap.size, 3, none⟩ (.int .i64 d2)).setCell ⟨w2.heap.size, 4, none⟩ (.int .i64 f2)).setCell ⟨w2.heap.size, 5, none⟩ (.slice A_n sn.length c_n)).alloc (.cells #[.int .i64 d2, .int .i64 f2, .slice A_n sn.length c_n] 26)) = w6 at *
        clear hk_d_w5 hk_s_w5 hk_r_w5 hk_o_w5 ho_o_w5 ho_n_w5 hbw_w5 hsw_w5
        obtain ⟨hx0_s, hx1_s, hx2_s, hx3_s, hx4_s, hx5_s, hx6_s, hxl_s⟩ := blk7 hk_s_w6
        obtain ⟨hx0_o, hx1_o, hx2_o, hx3_o, hx4_o, hx5_o, hx6_o, hxl_o⟩ := blk7 hk_o_w6
        go_wp2_with (at_builtin; (have hoE := ho_o_w6.o3.row.alloc (.cells #[.int .i64 K, .int .i64 F, .int .i64 L, .int .i64 T, .int .i64 I, .string bs, .string as_] 167)); (have hrE : Reads (w6.alloc (.cells #[.int .i64 K, .int .i64 F, .int .i64 L, .int .i64 T, .int .i64 I, .string bs, .string as_] 167)) (w6.heap.size + 1) 7 (some ⟨w6.heap.size, 0, none⟩) 1 (stepCells (PStep.mk K F L T I bs as_)) := reads_new w6 _ _ 1 7 rfl); refine wpList_append_any _ rfl (.tmp 34) (.tmp 36) _ rfl w1.heap.size 167 i0 _ 7 72 Tryz.underlying27 hi0 hz0 hz1 hz2 rfl (by omega) (.slice A3_o st.length c3_o) st.length (st.flatMap stepCells) rfl ?_ (w6.heap.size + 1) (some ⟨w6.heap.size, 0, none⟩) 1 1 (stepCells (PStep.mk K F L T I bs as_)) rfl ?_ (stepCells_one1 _) ?_ ?_ ?_ ?_; (first | exact hoE | exact ⟨hoE.1, hoE.2⟩); (first | exact hrE | exact ⟨hrE.1, hrE.2⟩); (unfold maxLen; omega); omega; (simp; omega); intro v1 w90 hoa hga0 hata; (have hga : World.grownBy (w6.alloc (.cells #[.int .i64 K, .int .i64 F, .int .i64 L, .int .i64 T, .int .i64 I, .string bs, .string as_] 167)) w90 (Value.slice A3_o st.length c3_o).ownBlock := (by first | exact hga0 | exact ⟨hga0.os, hga0.tape, hga0.output, hga0.size, hga0.block⟩)); obtain ⟨A9, c9, rfl⟩ := own_slice hoa; (have hk_d_w90 := blk_markedk (blk_alloc hk_d_w6 (.cells #[.int .i64 K, .int .i64 F, .int .i64 L, .int .i64 T, .int .i64 I, .string bs, .string as_] 167)) hga hoE (by decide)); (have hk_r_w90 := blk_markedk (blk_alloc hk_r_w6 (.cells #[.int .i64 K, .int .i64 F, .int .i64 L, .int .i64 T, .int .i64 I, .string bs, .string as_] 167)) hga hoE (by decide)); (have hk_o_w90 := blk_markedk (blk_alloc hk_o_w6 (.cells #[.int .i64 K, .int .i64 F, .int .i64 L, .int .i64 T, .int .i64 I, .string bs, .string as_] 167)) hga hoE (by decide)); (have hk_n_w90 := blk_markedk (blk_alloc hk_n_w6 (.cells #[.int .i64 K, .int .i64 F, .int .i64 L, .int .i64 T, .int .i64 I, .string bs, .string as_] 167)) hga hoE (by decide)); (have ho_n_w90 := own_grown (ho_n_w6.row.alloc (.cells #[.int .i64 K, .int .i64 F, .int .i64 L, .int .i64 T, .int .i64 I, .string bs, .string as_] 167)) hga (own_ne_type (ho_n_w6.row.alloc (.cells #[.int .i64 K, .int .i64 F, .int .i64 L, .int .i64 T, .int .i64 I, .string bs, .string as_] 167)) hoE (by decide))); (have ho_1_w90 := own_grown (ho_o_w6.o1.row.alloc (.cells #[.int .i64 K, .int .i64 F, .int .i64 L, .int .i64 T, .int .i64 I, .string bs, .string as_] 167)) hga (own_ne_type (ho_o_w6.o1.row.alloc (.cells #[.int .i64 K, .int .i64 F, .int .i64 L, .int .i64 T, .int .i64 I, .string bs, .string as_] 167)) hoE (by decide))); (have hbw_w90 : Below w.heap.size w w90 := (hbw_w6.alloc (by first | exact Nat.le_refl _ | (simp; done) | omega | (simp; omega) | exact (‹_ ∧ _ ∧ Below _ _ _›).2.2.size) (.cells #[.int .i64 K, .int .i64 F, .int .i64 L, .int .i64 T, .int .i64 I, .string bs, .string as_] 167)).trans (grown_below hga (fun k hk => by have := (hoE.lt k hk).1; omega) (by simp; omega))); (have hch_w90 : w6.heap.size ≤ w90.heap.size := (by have := hga.size; simp at this; omega)); obtain ⟨hy0_r, hy1_r, hy2_r, hy3_r, hy4_r, hy5_r, hy6_r, hyl_r⟩ := blk7 hk_r_w90; have hz0_r := (blk_cells hk_r_w90 0).2; have hz1_r := (blk_cells hk_r_w90 1).2; have hz2_r := (blk_cells hk_r_w90 2).2; have hz3_r := (blk_cells hk_r_w90 3).2; have hz4_r := (blk_cells hk_r_w90 4).2; have hz5_r := (blk_cells hk_r_w90 5).2; have hz6_r := (blk_cells hk_r_w90 6).2; obtain ⟨hy0_o, hy1_o, hy2_o, hy3_o, hy4_o, hy5_o, hy6_o, hyl_o⟩ := blk7 hk_o_w90; have hz0_o := (blk_cells hk_o_w90 0).2; have hz1_o := (blk_cells hk_o_w90 1).2; have hz2_o := (blk_cells hk_o_w90 2).2; have hz3_o := (blk_cells hk_o_w90 3).2; have hz4_o := (blk_cells hk_o_w90 4).2; have hz5_o := (blk_cells hk_o_w90 5).2; have hz6_o := (blk_cells hk_o_w90 6).2; obtain ⟨hy0_n, hy1_n, hy2_n, hyl_n⟩ := blk3 hk_n_w90; have hz0_n := (blk_cells hk_n_w90 0).2; have hz1_n := (blk_cells hk_n_w90 1).2; have hz2_n := (blk_cells hk_n_w90 2).2; clear hga hga0 hrE hata hx0_s hx1_s hx2_s hx3_s hx4_s hx5_s hx6_s hxl_s hx0_o hx1_o hx2_o hx3_o hx4_o hx5_o hx6_o hxl_o)
        refine bodyPost_ret (v := .tuple #[.agg #[.int .i64 d1, .int .i64 f1, .slice A1_o ss1.length c1_o, .int .i64 d2, .int .i64 f2, .slice A_n sn.length c_n, .slice A9 (st.length + 1) c9], .bool true]) (by simp [results, Tryz.results183, go_sem, *]) rfl ?_
        have hbx_d := boxAt_of hk_d_w90
        have hbx_r := boxAt_of hk_r_w90
        have hbx_o := boxAt_of hk_o_w90
        have hbx_n := boxAt_of hk_n_w90
        have hr2 := HR.out; subst hr2
        have hlen : (st ++ [(PStep.mk K F L T I bs as_)]).length = st.length + 1 := by simp
        have hoa2 : w90.ownsRow w1.heap.size 167 7 (.slice A9 (st ++ [(PStep.mk K F L T I bs as_)]).length c9) (st ++ [(PStep.mk K F L T I bs as_)]).length ((st ++ [(PStep.mk K F L T I bs as_)]).flatMap stepCells) := by rw [hlen, flat_snoc]; exact hoa
        show ∃ B1 e1 B2 e2 B3 e3, _ = _ ∧ _ ∧ _
        refine ⟨A1_o, c1_o, A_n, c_n, A9, c9, ?_, ⟨((OwnS.of (hi := w90.heap.size) ho_1_w90 (Nat.le_refl _)).boxy (by repeat (first | (with_reducible exact Boxy.refl _) | (with_reducible refine Boxy.drew ?_) | (with_reducible refine Boxy.drewN ?_ _) | (with_reducible refine Boxy.alloc ?_ _) | ((with_reducible refine Boxy.setCell ?_ ?hbs _); (case hbs => first | (with_reducible exact .inl (by assumption)) | exact .inl (by assumption) | exact .inr (by simp) | exact .inr (by simp; omega)))))).wide (by omega) (by simp), ((OwnS.of (hi := w90.heap.size) ho_n_w90 (Nat.le_refl _)).boxy (by repeat (first | (with_reducible exact Boxy.refl _) | (with_reducible refine Boxy.drew ?_) | (with_reducible refine Boxy.drewN ?_ _) | (with_reducible refine Boxy.alloc ?_ _) | ((with_reducible refine Boxy.setCell ?_ ?hbs _); (case hbs => first | (with_reducible exact .inl (by assumption)) | exact .inl (by assumption) | exact .inr (by simp) | exact .inr (by simp; omega)))))).wide (by omega) (by simp), ((OwnSt.of (hi := w90.heap.size) hoa2 (Nat.le_refl _)).boxy (by repeat (first | (with_reducible exact Boxy.refl _) | (with_reducible refine Boxy.drew ?_) | (with_reducible refine Boxy.drewN ?_ _) | (with_reducible refine Boxy.alloc ?_ _) | ((with_reducible refine Boxy.setCell ?_ ?hbs _); (case hbs => first | (with_reducible exact .inl (by assumption)) | exact .inl (by assumption) | exact .inr (by simp) | exact .inr (by simp; omega)))))).wide (by omega) (by simp), ?_⟩, ?_⟩
        · show _ = Ending.returned (.tuple #[.agg #[.int .i64 d1, .int .i64 f1, .slice A1_o ss1.length c1_o, .int .i64 d2, .int .i64 f2, .slice A_n sn.length c_n, .slice A9 (st ++ [(PStep.mk K F L T I bs as_)]).length c9], .bool true])
          rw [hlen]
        · exact fun k hk hk2 => by have a := ho_o_w6.o1.top k hk; have b := (ho_n_w6.row.lt k hk2).1; omega
        · exact bel
    · have hne : st.length = 40 := by simp at he; omega
      have HR : Hid (res = ((PDraft.mk d1 f1 ss1 d2 f2 ss2 st), false)) := by unfold Hid; rw [hr]; exact if_neg (by simp [hne])
      have HE := Lib.hid he
      clear hr h40 hne he
      go_enter Tryz.func183, Tryz.ntmps183
      go_wp2_with fail
      have hk_d_w1 := (blk_alloc (blk_alloc (blk_new_at w (.cells #[.int .i64 d1, .int .i64 f1, .slice A1 ss1.length c1, .int .i64 d2, .int .i64 f2, .slice A2 ss2.length c2, .slice A3 st.length c3] 29) (k := w.heap.size) (by simp)) (.cells #[.int .i64 K, .int .i64 F, .int .i64 L, .int .i64 T, .int .i64 I, .string bs, .string as_] 167)) (.cells #[.int .i64 0, .int .i64 0, .slice none 0 0, .int .i64 0, .int .i64 0, .slice none 0 0, .slice none 0 0] 29))
      have hk_s_w1 := (blk_alloc (blk_new_at (w.alloc (.cells #[.int .i64 d1, .int .i64 f1, .slice A1 ss1.length c1, .int .i64 d2, .int .i64 f2, .slice A2 ss2.length c2, .slice A3 st.length c3] 29)) (.cells #[.int .i64 K, .int .i64 F, .int .i64 L, .int .i64 T, .int .i64 I, .string bs, .string as_] 167) (k := w.heap.size + 1) (by simp)) (.cells #[.int .i64 0, .int .i64 0, .slice none 0 0, .int .i64 0, .int .i64 0, .slice none 0 0, .slice none 0 0] 29))
      have hk_r_w1 := (blk_new_at ((w.alloc (.cells #[.int .i64 d1, .int .i64 f1, .slice A1 ss1.length c1, .int .i64 d2, .int .i64 f2, .slice A2 ss2.length c2, .slice A3 st.length c3] 29)).alloc (.cells #[.int .i64 K, .int .i64 F, .int .i64 L, .int .i64 T, .int .i64 I, .string bs, .string as_] 167)) (.cells #[.int .i64 0, .int .i64 0, .slice none 0 0, .int .i64 0, .int .i64 0, .slice none 0 0, .slice none 0 0] 29) (k := w.heap.size + 1 + 1) (by simp))
      have hbw_w1 : Below w.heap.size w (((w.alloc (.cells #[.int .i64 d1, .int .i64 f1, .slice A1 ss1.length c1, .int .i64 d2, .int .i64 f2, .slice A2 ss2.length c2, .slice A3 st.length c3] 29)).alloc (.cells #[.int .i64 K, .int .i64 F, .int .i64 L, .int .i64 T, .int .i64 I, .string bs, .string as_] 167)).alloc (.cells #[.int .i64 0, .int .i64 0, .slice none 0 0, .int .i64 0, .int .i64 0, .slice none 0 0, .slice none 0 0] 29)) := bel
      have hsw_w1 := hbw_w1.size
      have hch_w1 : w.heap.size + 3 ≤ (((w.alloc (.cells #[.int .i64 d1, .int .i64 f1, .slice A1 ss1.length c1, .int .i64 d2, .int .i64 f2, .slice A2 ss2.length c2, .slice A3 st.length c3] 29)).alloc (.cells #[.int .i64 K, .int .i64 F, .int .i64 L, .int .i64 T, .int .i64 I, .string bs, .string as_] 167)).alloc (.cells #[.int .i64 0, .int .i64 0, .slice none 0 0, .int .i64 0, .int .i64 0, .slice none 0 0, .slice none 0 0] 29)).heap.size := (by simp; try omega)
      generalize (((w.alloc (.cells #[.int .i64 d1, .int .i64 f1, .slice A1 ss1.length c1, .int .i64 d2, .int .i64 f2, .slice A2 ss2.length c2, .slice A3 st.length c3] 29)).alloc (.cells #[.int .i64 K, .int .i64 F, .int .i64 L, .int .i64 T, .int .i64 I, .string bs, .string as_] 167)).alloc (.cells #[.int .i64 0, .int .i64 0, .slice none 0 0, .int .i64 0, .int .i64 0, .slice none 0 0, .slice none 0 0] 29)) = w1 at *
      refine (unhide HCP _ hbw_w1).mono ?_
      rintro e w2 ⟨A1_o, c1_o, A2_o, c2_o, A3_o, c3_o, rfl, hon, hb_w2⟩
      have hk_d_w2 := blk_next hk_d_w1 hb_w2
      have hk_s_w2 := blk_next hk_s_w1 hb_w2
      have hk_r_w2 := blk_next hk_r_w1 hb_w2
      have hbw_w2 : Below w.heap.size w w2 := hbw_w1.trans (Below.mono hb_w2 hsw_w1)
      have hsw_w2 := hbw_w2.size
      have hch_w2 : w1.heap.size ≤ w2.heap.size := hb_w2.size
      clear hk_d_w1 hk_s_w1 hk_r_w1 hbw_w1 hsw_w1 hb_w2
      have ho_o_w2 := hon
      clear hon
      obtain ⟨hx0_d, hx1_d, hx2_d, hx3_d, hx4_d, hx5_d, hx6_d, hxl_d⟩ := blk7 hk_d_w2
      go_wp2_with fail
      clear hx0_d hx1_d hx2_d hx3_d hx4_d hx5_d hx6_d hxl_d
      have hk_d_w3 := (blk_alloc hk_d_w2 (.cells #[.int .i64 d1, .int .i64 f1, .slice A1_o ss1.length c1_o, .int .i64 d2, .int .i64 f2, .slice A2_o ss2.length c2_o, .slice A3_o st.length c3_o] 29))
      have hk_s_w3 := (blk_alloc hk_s_w2 (.cells #[.int .i64 d1, .int .i64 f1, .slice A1_o ss1.length c1_o, .int .i64 d2, .int .i64 f2, .slice A2_o ss2.length c2_o, .slice A3_o st.length c3_o] 29))
      have hk_r_w3 := (blk_alloc hk_r_w2 (.cells #[.int .i64 d1, .int .i64 f1, .slice A1_o ss1.length c1_o, .int .i64 d2, .int .i64 f2, .slice A2_o ss2.length c2_o, .slice A3_o st.length c3_o] 29))
      have hk_o_w3 := (blk_new_at w2 (.cells #[.int .i64 d1, .int .i64 f1, .slice A1_o ss1.length c1_o, .int .i64 d2, .int .i64 f2, .slice A2_o ss2.length c2_o, .slice A3_o st.length c3_o] 29) (k := w2.heap.size) (by simp))
      have ho_o_w3 := (ho_o_w2.alloc (.cells #[.int .i64 d1, .int .i64 f1, .slice A1_o ss1.length c1_o, .int .i64 d2, .int .i64 f2, .slice A2_o ss2.length c2_o, .slice A3_o st.length c3_o] 29))
      have hbw_w3 : Below w.heap.size w (w2.alloc (.cells #[.int .i64 d1, .int .i64 f1, .slice A1_o ss1.length c1_o, .int .i64 d2, .int .i64 f2, .slice A2_o ss2.length c2_o, .slice A3_o st.length c3_o] 29)) := bel
      have hsw_w3 := hbw_w3.size
      have hch_w3 : w2.heap.size + 1 ≤ (w2.alloc (.cells #[.int .i64 d1, .int .i64 f1, .slice A1_o ss1.length c1_o, .int .i64 d2, .int .i64 f2, .slice A2_o ss2.length c2_o, .slice A3_o st.length c3_o] 29)).heap.size := (by simp; try omega)
      generalize (w2.alloc (.cells #[.int .i64 d1, .int .i64 f1, .slice A1_o ss1.length c1_o, .int .i64 d2, .int .i64 f2, .slice A2_o ss2.length c2_o, .slice A3_o st.length c3_o] 29)) = w3 at *
      clear hk_d_w2 hk_s_w2 hk_r_w2 ho_o_w2 hbw_w2 hsw_w2
      refine (unhide HOK _ hbw_w3).mono ?_
      rintro e w4 ⟨rfl, hb_w4⟩
      have hk_d_w4 := blk_next hk_d_w3 hb_w4
      have hk_s_w4 := blk_next hk_s_w3 hb_w4
      have hk_r_w4 := blk_next hk_r_w3 hb_w4
      have hk_o_w4 := blk_next hk_o_w3 hb_w4
      have ho_o_w4 := ho_o_w3.below hb_w4
      have hbw_w4 : Below w.heap.size w w4 := hbw_w3.trans (Below.mono hb_w4 hsw_w3)
      have hsw_w4 := hbw_w4.size
      have hch_w4 : w3.heap.size ≤ w4.heap.size := hb_w4.size
      clear hk_d_w3 hk_s_w3 hk_r_w3 hk_o_w3 ho_o_w3 hbw_w3 hsw_w3 hb_w4
      obtain ⟨hx0_d, hx1_d, hx2_d, hx3_d, hx4_d, hx5_d, hx6_d, hxl_d⟩ := blk7 hk_d_w4
      have he := HE.out
      go_upto_region 3 with fail
      clear he
      clear hx0_d hx1_d hx2_d hx3_d hx4_d hx5_d hx6_d hxl_d
      obtain ⟨hx0_r, hx1_r, hx2_r, hx3_r, hx4_r, hx5_r, hx6_r, hxl_r⟩ := blk7 hk_r_w4
      have hfz0_r := (blk_cells hk_r_w4 0).2
      have hfz1_r := (blk_cells hk_r_w4 1).2
      have hfz2_r := (blk_cells hk_r_w4 2).2
      have hfz3_r := (blk_cells hk_r_w4 3).2
      have hfz4_r := (blk_cells hk_r_w4 4).2
      have hfz5_r := (blk_cells hk_r_w4 5).2
      have hfz6_r := (blk_cells hk_r_w4 6).2
      obtain ⟨hx0_o, hx1_o, hx2_o, hx3_o, hx4_o, hx5_o, hx6_o, hxl_o⟩ := blk7 hk_o_w4
      have hfz0_o := (blk_cells hk_o_w4 0).2
      have hfz1_o := (blk_cells hk_o_w4 1).2
      have hfz2_o := (blk_cells hk_o_w4 2).2
      have hfz3_o := (blk_cells hk_o_w4 3).2
      have hfz4_o := (blk_cells hk_o_w4 4).2
      have hfz5_o := (blk_cells hk_o_w4 5).2
      have hfz6_o := (blk_cells hk_o_w4 6).2
      go_wp2
      refine bodyPost_ret (v := .tuple #[.agg #[.int .i64 d1, .int .i64 f1, .slice A1_o ss1.length c1_o, .int .i64 d2, .int .i64 f2, .slice A2_o ss2.length c2_o, .slice A3_o st.length c3_o], .bool false]) (by simp [results, Tryz.results183, go_sem, *]) rfl ?_
      have hbx_d := boxAt_of hk_d_w4
      have hbx_r := boxAt_of hk_r_w4
      have hbx_o := boxAt_of hk_o_w4
      have hr2 := HR.out; subst hr2
      exact ⟨A1_o, c1_o, A2_o, c2_o, A3_o, c3_o, rfl, (ho_o_w4.boxy (by repeat (first | (with_reducible exact Boxy.refl _) | (with_reducible refine Boxy.drew ?_) | (with_reducible refine Boxy.drewN ?_ _) | (with_reducible refine Boxy.alloc ?_ _) | ((with_reducible refine Boxy.setCell ?_ ?hbs _); (case hbs => first | (with_reducible exact .inl (by assumption)) | exact .inl (by assumption) | exact .inr (by simp) | exact .inr (by simp; omega)))))).wide (by omega) (by simp; try omega), (((((((hbw_w4.setCell (p := ⟨w.heap.size + 1 + 1, 0, none⟩) (by show w.heap.size ≤ w.heap.size + 1 + 1; omega) _).setCell (p := ⟨w.heap.size + 1 + 1, 1, none⟩) (by show w.heap.size ≤ w.heap.size + 1 + 1; omega) _).setCell (p := ⟨w.heap.size + 1 + 1, 2, none⟩) (by show w.heap.size ≤ w.heap.size + 1 + 1; omega) _).setCell (p := ⟨w.heap.size + 1 + 1, 3, none⟩) (by show w.heap.size ≤ w.heap.size + 1 + 1; omega) _).setCell (p := ⟨w.heap.size + 1 + 1, 4, none⟩) (by show w.heap.size ≤ w.heap.size + 1 + 1; omega) _).setCell (p := ⟨w.heap.size + 1 + 1, 5, none⟩) (by show w.heap.size ≤ w.heap.size + 1 + 1; omega) _).setCell (p := ⟨w.heap.size + 1 + 1, 6, none⟩) (by show w.heap.size ≤ w.heap.size + 1 + 1; omega) _)⟩
end Go.Proofs.YtlimlolciekimaaGreatDoor
