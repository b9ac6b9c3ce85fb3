/- The contract of KeepCard (the program). -/
import Derived.Test.YtdddglihomchfaaGreatRows
import Derived.Test.YtdddglihomchfaaGreatQCn
import Derived.Test.YtdddglihomchfaaGreatQCl
namespace Go.Proofs.YtdddglihomchfaaGreat
open Go.ChangeShapes Go.WideShapes Go.ChangeAt Go.RowKit
set_option linter.unusedVariables false
set_option linter.unusedSimpArgs false
set_option maxRecDepth 10000
set_option maxHeartbeats 1600000 in
theorem i_KeepCard (d1 f1 : Int) (ss1 : List ByteArray) (d2 f2 : Int) (ss2 : List ByteArray) (st : List PStep) (P : List PItem) (pp : List PPaper) (m : Int) (nm : ByteArray) (B : Nat) (A1 A2 A3 A4 A5 : Option Addr) (c1 c2 c3 c4 c5 : Nat) (w : World) (hS : RdWork w B A1 A2 A3 A4 c4 A5 ⟨d1, f1, ss1, d2, f2, ss2, st⟩ P pp) (hB : B ≤ w.heap.size) (hok : OkWork (PDraft.mk d1 f1 ss1 d2 f2 ss2 st) P pp 1048576) (hnm : nm.size ≤ 16777216) :
    Calls Tryz.prog 43 #[.agg #[.int .i64 d1, .int .i64 f1, .slice A1 ss1.length c1, .int .i64 d2, .int .i64 f2, .slice A2 ss2.length c2, .slice A3 st.length c3, .slice A4 P.length c4, .slice A5 pp.length c5, .int .i64 m], .string nm] w (UWorkB (keepRes (PWork.mk (PDraft.mk d1 f1 ss1 d2 f2 ss2 st) P pp m) nm).1.D.d1 (keepRes (PWork.mk (PDraft.mk d1 f1 ss1 d2 f2 ss2 st) P pp m) nm).1.D.f1 (keepRes (PWork.mk (PDraft.mk d1 f1 ss1 d2 f2 ss2 st) P pp m) nm).1.D.ss1 (keepRes (PWork.mk (PDraft.mk d1 f1 ss1 d2 f2 ss2 st) P pp m) nm).1.D.d2 (keepRes (PWork.mk (PDraft.mk d1 f1 ss1 d2 f2 ss2 st) P pp m) nm).1.D.f2 (keepRes (PWork.mk (PDraft.mk d1 f1 ss1 d2 f2 ss2 st) P pp m) nm).1.D.ss2 (keepRes (PWork.mk (PDraft.mk d1 f1 ss1 d2 f2 ss2 st) P pp m) nm).1.D.st (keepRes (PWork.mk (PDraft.mk d1 f1 ss1 d2 f2 ss2 st) P pp m) nm).1.P (keepRes (PWork.mk (PDraft.mk d1 f1 ss1 d2 f2 ss2 st) P pp m) nm).1.pp (keepRes (PWork.mk (PDraft.mk d1 f1 ss1 d2 f2 ss2 st) P pp m) nm).1.m (keepRes (PWork.mk (PDraft.mk d1 f1 ss1 d2 f2 ss2 st) P pp m) nm).2 w) := by
  obtain ⟨L0, hpl, hL0⟩ := hS.i
  have HPL := Lib.hid hpl
  clear hpl
  have hcall := fun (W : World) (hW : Below w.heap.size w W) => i_AddItem nm d2 f2 A2 c2 ss2 P B A4 P.length c4 L0 W HPL.out (hL0.below (hW.mono hB)) (hS.d.s2.below (hW.mono hB)) hnm (Nat.le_trans hB hW.size) (by have := hok.i.1; omega)
  have hokX := added_ok P ⟨nm, d2, f2, ss2⟩ 1048576 hok.i ⟨hok.d.l2, hok.d.z2, hnm⟩ (by omega)
  have hyes := fun h => keep_yes (W := (PWork.mk (PDraft.mk d1 f1 ss1 d2 f2 ss2 st) P pp m)) (nm := nm) h
  have hno := fun h => keep_no (W := (PWork.mk (PDraft.mk d1 f1 ss1 d2 f2 ss2 st) P pp m)) (nm := nm) h
  simp only at hyes hno
  generalize keepRes (PWork.mk (PDraft.mk d1 f1 ss1 d2 f2 ss2 st) P pp m) nm = R at *
  generalize (added P ⟨nm, d2, f2, ss2⟩) = q at *
  obtain ⟨Pq, bq⟩ := q
  simp only at hcall hokX hyes hno
  have HCALL := hide hcall
  have HOKX := hide hokX
  have HOK := hide hok
  clear hcall hokX hok
  cases hc : (bq && (workOk (PWork.mk (PDraft.mk d1 f1 ss1 d2 f2 ss2 st) P pp m) && workOk (PWork.mk (PDraft.mk d1 f1 ss1 d2 f2 ss2 st) Pq pp m)))
  case true =>
    obtain ⟨rfl, hw1, hw2, hr4⟩ := hyes hc
    have HW1 := Lib.hid hw1
    have HW2 := Lib.hid hw2
    have HR4 := Lib.hid hr4
    clear hw1 hw2 hr4 hyes hno hc
    go_enter Tryz.func43, Tryz.ntmps43
    go_wp2_with fail
    obtain ⟨w1, he_w1⟩ : ∃ x, x = ((w.alloc (.cells #[.int .i64 d1, .int .i64 f1, .slice A1 ss1.length c1, .int .i64 d2, .int .i64 f2, .slice A2 ss2.length c2, .slice A3 st.length c3, .slice A4 P.length c4, .slice A5 pp.length c5, .int .i64 m] 41)).alloc (.cells #[.int .i64 0, .int .i64 0, .slice none 0 0, .int .i64 0, .int .i64 0, .slice none 0 0, .slice none 0 0, .slice none 0 0, .slice none 0 0, .int .i64 0] 41)) := ⟨_, rfl⟩
    have hk_a_w1 : w1.heap[w.heap.size]? = some (.cells #[.int .i64 d1, .int .i64 f1, .slice A1 ss1.length c1, .int .i64 d2, .int .i64 f2, .slice A2 ss2.length c2, .slice A3 st.length c3, .slice A4 P.length c4, .slice A5 pp.length c5, .int .i64 m] 41 (0, 0)) := by rw [he_w1]; exact (blk_alloc (blk_new_at w (.cells #[.int .i64 d1, .int .i64 f1, .slice A1 ss1.length c1, .int .i64 d2, .int .i64 f2, .slice A2 ss2.length c2, .slice A3 st.length c3, .slice A4 P.length c4, .slice A5 pp.length c5, .int .i64 m] 41) (k := w.heap.size) (by simp [World.setCell])) _)
    have hk_r_w1 : w1.heap[w.heap.size + 1]? = some (.cells #[.int .i64 0, .int .i64 0, .slice none 0 0, .int .i64 0, .int .i64 0, .slice none 0 0, .slice none 0 0, .slice none 0 0, .slice none 0 0, .int .i64 0] 41 (0, 0)) := by rw [he_w1]; exact (blk_new_at (w.alloc (.cells #[.int .i64 d1, .int .i64 f1, .slice A1 ss1.length c1, .int .i64 d2, .int .i64 f2, .slice A2 ss2.length c2, .slice A3 st.length c3, .slice A4 P.length c4, .slice A5 pp.length c5, .int .i64 m] 41)) (.cells #[.int .i64 0, .int .i64 0, .slice none 0 0, .int .i64 0, .int .i64 0, .slice none 0 0, .slice none 0 0, .slice none 0 0, .slice none 0 0, .int .i64 0] 41) (k := w.heap.size + 1) (by simp [World.setCell]))
    have hbw_w1 : Below w.heap.size w w1 := by rw [he_w1]; exact bel
    have hsw_w1 := hbw_w1.size
    have hch_w1 : w.heap.size ≤ w1.heap.size := by rw [he_w1]; simp [World.setCell]; try omega
    rw [← he_w1]
    clear he_w1
    refine (i_workCopied d1 f1 ss1 d2 f2 ss2 st P pp m B A1 A2 A3 A4 A5 c1 c2 c3 c4 c5 w1 (hS.below (hbw_w1.mono hB)) (Nat.le_trans hB hsw_w1)).mono ?_
    rintro e w2 ⟨B1, e1, B2q, e2, B3, e3, B4, e4, B5, e5, rfl, hon, hb_w2⟩
    obtain ⟨l1, h1_, l2, h2_, l3, h3_, L4, hr, ha, hx, hp4, hy, hz⟩ := hon.all
    have HP4 := Lib.hid hp4
    have HR := hide hr
    have HA := hide ha
    clear hon hr ha hp4
    have hk_a_w2 := blk_next hk_a_w1 hb_w2
    have hk_r_w2 := blk_next hk_r_w1 hb_w2
    have hbw_w2 : Below w.heap.size w w2 := hbw_w1.trans (hb_w2.mono hsw_w1)
    have hsw_w2 := hbw_w2.size
    have hch_w2 : w1.heap.size ≤ w2.heap.size := hb_w2.size
    clear hk_a_w1 hk_r_w1 hbw_w1 hsw_w1 hb_w2
    have ho_x_w2 := hx
    clear hx
    have ho_y_w2 := hy
    clear hy
    have ho_z_w2 := hz
    clear hz
    obtain ⟨x0_a, x1_a, x2_a, x3_a, x4_a, x5_a, x6_a, x7_a, x8_a, x9_a, xl_a⟩ := blk10 hk_a_w2
    go_wp2_with fail
    clear x0_a x1_a x2_a x3_a x4_a x5_a x6_a x7_a x8_a x9_a xl_a
    have hl_a := blk_lt hk_a_w2
    have hl_r := blk_lt hk_r_w2
    have hlt_a_w3 := blk_lt hk_a_w2
    have hlt_r_w3 := blk_lt hk_r_w2
    obtain ⟨w3, he_w3⟩ : ∃ x, x = (w2.alloc (.cells #[.int .i64 d1, .int .i64 f1, .slice B1 ss1.length e1, .int .i64 d2, .int .i64 f2, .slice B2q ss2.length e2, .slice B3 st.length e3, .slice B4 P.length e4, .slice B5 pp.length e5, .int .i64 m] 41)) := ⟨_, rfl⟩
    have hk_a_w3 : w3.heap[w.heap.size]? = some (.cells #[.int .i64 d1, .int .i64 f1, .slice A1 ss1.length c1, .int .i64 d2, .int .i64 f2, .slice A2 ss2.length c2, .slice A3 st.length c3, .slice A4 P.length c4, .slice A5 pp.length c5, .int .i64 m] 41 (0, 0)) := by rw [he_w3]; exact (blk_alloc hk_a_w2 _)
    have hk_r_w3 : w3.heap[w.heap.size + 1]? = some (.cells #[.int .i64 0, .int .i64 0, .slice none 0 0, .int .i64 0, .int .i64 0, .slice none 0 0, .slice none 0 0, .slice none 0 0, .slice none 0 0, .int .i64 0] 41 (0, 0)) := by rw [he_w3]; exact (blk_alloc hk_r_w2 _)
    have hk_o_w3 : w3.heap[w2.heap.size]? = some (.cells #[.int .i64 d1, .int .i64 f1, .slice B1 ss1.length e1, .int .i64 d2, .int .i64 f2, .slice B2q ss2.length e2, .slice B3 st.length e3, .slice B4 P.length e4, .slice B5 pp.length e5, .int .i64 m] 41 (0, 0)) := by rw [he_w3]; exact (blk_new_at w2 (.cells #[.int .i64 d1, .int .i64 f1, .slice B1 ss1.length e1, .int .i64 d2, .int .i64 f2, .slice B2q ss2.length e2, .slice B3 st.length e3, .slice B4 P.length e4, .slice B5 pp.length e5, .int .i64 m] 41) (k := w2.heap.size) (by simp [World.setCell]))
    have hBX : Boxy w2 w3 := by rw [he_w3]; exact boxy
    have ho_x_w3 := ho_x_w2.boxy hBX
    have ho_y_w3 := ho_y_w2.boxy hBX
    have ho_z_w3 := ho_z_w2.boxy hBX
    have hbw_w3 : Below w.heap.size w w3 := by rw [he_w3]; exact bel
    have hsw_w3 := hbw_w3.size
    have hch_w3 : w2.heap.size ≤ w3.heap.size := by rw [he_w3]; simp [World.setCell]; try omega
    rw [← he_w3]
    clear hk_a_w2 hk_r_w2 ho_x_w2 ho_y_w2 ho_z_w2 hl_a hl_r hBX hbw_w2 hsw_w2 he_w3
    refine (unhide HCALL _ hbw_w3).mono ?_
    rintro e w4 ⟨E4, g4, LQ, rfl, hpq, hon2, hb_w4⟩
    have HPQ := Lib.hid hpq
    clear hpq
    have hk_a_w4 := blk_next hk_a_w3 hb_w4
    have hk_r_w4 := blk_next hk_r_w3 hb_w4
    have hk_o_w4 := blk_next hk_o_w3 hb_w4
    have ho_x_w4 := ho_x_w3.below hb_w4
    have ho_y_w4 := ho_y_w3.below hb_w4
    have ho_z_w4 := ho_z_w3.below hb_w4
    have hbw_w4 : Below w.heap.size w w4 := hbw_w3.trans (hb_w4.mono hsw_w3)
    have hsw_w4 := hbw_w4.size
    have hch_w4 : w3.heap.size ≤ w4.heap.size := hb_w4.size
    clear hk_a_w3 hk_r_w3 hk_o_w3 ho_x_w3 ho_y_w3 ho_z_w3 hbw_w3 hsw_w3 hb_w4
    have ho_q_w4 := hon2
    clear hon2
    clear ho_y_w4
    obtain ⟨x0_a, x1_a, x2_a, x3_a, x4_a, x5_a, x6_a, x7_a, x8_a, x9_a, xl_a⟩ := blk10 hk_a_w4
    obtain ⟨x0_o, x1_o, x2_o, x3_o, x4_o, x5_o, x6_o, x7_o, x8_o, x9_o, xl_o⟩ := blk10 hk_o_w4
    have f0_o := (blk_cells hk_o_w4 0).2
    have f1_o := (blk_cells hk_o_w4 1).2
    have f2_o := (blk_cells hk_o_w4 2).2
    have f3_o := (blk_cells hk_o_w4 3).2
    have f4_o := (blk_cells hk_o_w4 4).2
    have f5_o := (blk_cells hk_o_w4 5).2
    have f6_o := (blk_cells hk_o_w4 6).2
    have f7_o := (blk_cells hk_o_w4 7).2
    have f8_o := (blk_cells hk_o_w4 8).2
    have f9_o := (blk_cells hk_o_w4 9).2
    go_wp2_with fail
    clear x0_a x1_a x2_a x3_a x4_a x5_a x6_a x7_a x8_a x9_a xl_a x0_o x1_o x2_o x3_o x4_o x5_o x6_o x7_o x8_o x9_o xl_o f0_o f1_o f2_o f3_o f4_o f5_o f6_o f7_o f8_o f9_o
    have hl_a := blk_lt hk_a_w4
    have hl_r := blk_lt hk_r_w4
    have hl_o := blk_lt hk_o_w4
    have hbx_o := boxAt_of hk_o_w4
    obtain ⟨w5, he_w5⟩ : ∃ x, x = (w4.setCell ⟨w2.heap.size, 7, none⟩ (.slice E4 Pq.length g4)) := ⟨_, rfl⟩
    have hk_a_w5 : w5.heap[w.heap.size]? = some (.cells #[.int .i64 d1, .int .i64 f1, .slice A1 ss1.length c1, .int .i64 d2, .int .i64 f2, .slice A2 ss2.length c2, .slice A3 st.length c3, .slice A4 P.length c4, .slice A5 pp.length c5, .int .i64 m] 41 (0, 0)) := by rw [he_w5]; exact (blk_other (p := ⟨w2.heap.size, 7, none⟩) hk_a_w4 (show ¬ w.heap.size = w2.heap.size by omega) (.slice E4 Pq.length g4))
    have hk_r_w5 : w5.heap[w.heap.size + 1]? = some (.cells #[.int .i64 0, .int .i64 0, .slice none 0 0, .int .i64 0, .int .i64 0, .slice none 0 0, .slice none 0 0, .slice none 0 0, .slice none 0 0, .int .i64 0] 41 (0, 0)) := by rw [he_w5]; exact (blk_other (p := ⟨w2.heap.size, 7, none⟩) hk_r_w4 (show ¬ w.heap.size + 1 = w2.heap.size by omega) (.slice E4 Pq.length g4))
    have hk_o_w5 : w5.heap[w2.heap.size]? = some (.cells #[.int .i64 d1, .int .i64 f1, .slice B1 ss1.length e1, .int .i64 d2, .int .i64 f2, .slice B2q ss2.length e2, .slice B3 st.length e3, .slice E4 Pq.length g4, .slice B5 pp.length e5, .int .i64 m] 41 (0, 0)) := by rw [he_w5]; have hq9 := (blk_set hk_o_w4 7 (.slice E4 Pq.length g4)); simpa using hq9
    have hBX : Boxy w4 w5 := by rw [he_w5]; exact boxy
    have ho_x_w5 := ho_x_w4.boxy hBX
    have ho_z_w5 := ho_z_w4.boxy hBX
    have ho_q_w5 := ho_q_w4.boxy hBX
    have hbw_w5 : Below w.heap.size w w5 := by rw [he_w5]; exact bel
    have hsw_w5 := hbw_w5.size
    have hch_w5 : w4.heap.size ≤ w5.heap.size := by rw [he_w5]; simp [World.setCell]; try omega
    rw [← he_w5]
    clear hk_a_w4 hk_r_w4 hk_o_w4 ho_x_w4 ho_z_w4 ho_q_w4 hl_a hl_r hl_o hbx_o hBX hbw_w4 hsw_w4 he_w5
    refine (i_wchanged_yes d1 f1 ss1 d2 f2 ss2 st P pp m d1 f1 ss1 d2 f2 ss2 st Pq pp m A1 A2 A3 A4 A5 c1 c2 c3 c4 c5 B1 B2q B3 E4 B5 e1 e2 e3 g4 e5 B w5.heap.size w5 (hS.below (hbw_w5.mono hB)) (Nat.le_trans hB hsw_w5) ⟨ho_x_w5.rd ((unhide HOK).d.more (by omega)), ⟨LQ, HPQ.out, ho_q_w5.rdP HPQ.out ((unhide HOKX).more (by omega))⟩, ho_z_w5.rd (by have := (unhide HOK).p; omega), own_capU ho_q_w5.row⟩ (Nat.le_refl _) HW1.out HW2.out).mono ?_
    rintro e w6 ⟨rfl, hb_w6⟩
    have hk_a_w6 := blk_next hk_a_w5 hb_w6
    have hk_r_w6 := blk_next hk_r_w5 hb_w6
    have hk_o_w6 := blk_next hk_o_w5 hb_w6
    have ho_x_w6 := ho_x_w5.below hb_w6
    have ho_z_w6 := ho_z_w5.below hb_w6
    have ho_q_w6 := ho_q_w5.below hb_w6
    have hbw_w6 : Below w.heap.size w w6 := hbw_w5.trans (hb_w6.mono hsw_w5)
    have hsw_w6 := hbw_w6.size
    have hch_w6 : w5.heap.size ≤ w6.heap.size := hb_w6.size
    clear hk_a_w5 hk_r_w5 hk_o_w5 ho_x_w5 ho_z_w5 ho_q_w5 hbw_w5 hsw_w5 hb_w6
    obtain ⟨x0_r, x1_r, x2_r, x3_r, x4_r, x5_r, x6_r, x7_r, x8_r, x9_r, xl_r⟩ := blk10 hk_r_w6
    have f0_r := (blk_cells hk_r_w6 0).2
    have f1_r := (blk_cells hk_r_w6 1).2
    have f2_r := (blk_cells hk_r_w6 2).2
    have f3_r := (blk_cells hk_r_w6 3).2
    have f4_r := (blk_cells hk_r_w6 4).2
    have f5_r := (blk_cells hk_r_w6 5).2
    have f6_r := (blk_cells hk_r_w6 6).2
    have f7_r := (blk_cells hk_r_w6 7).2
    have f8_r := (blk_cells hk_r_w6 8).2
    have f9_r := (blk_cells hk_r_w6 9).2
    go_wp2
    have hbx_r := boxAt_of hk_r_w6
    refine bodyPost_ret (v := .tuple #[.agg #[.int .i64 d1, .int .i64 f1, .slice B1 ss1.length e1, .int .i64 d2, .int .i64 f2, .slice B2q ss2.length e2, .slice B3 st.length e3, .slice E4 Pq.length g4, .slice B5 pp.length e5, .int .i64 m], .bool true]) (by simp [results, Tryz.results43, go_sem, *]) rfl ?_
    clear x0_r x1_r x2_r x3_r x4_r x5_r x6_r x7_r x8_r x9_r xl_r f0_r f1_r f2_r f3_r f4_r f5_r f6_r f7_r f8_r f9_r
    obtain ⟨wE, heE⟩ : ∃ x, x = ((((((((((w6.setCell ⟨w.heap.size + 1, 0, none⟩ (.int .i64 d1)).setCell ⟨w.heap.size + 1, 1, none⟩ (.int .i64 f1)).setCell ⟨w.heap.size + 1, 2, none⟩ (.slice B1 ss1.length e1)).setCell ⟨w.heap.size + 1, 3, none⟩ (.int .i64 d2)).setCell ⟨w.heap.size + 1, 4, none⟩ (.int .i64 f2)).setCell ⟨w.heap.size + 1, 5, none⟩ (.slice B2q ss2.length e2)).setCell ⟨w.heap.size + 1, 6, none⟩ (.slice B3 st.length e3)).setCell ⟨w.heap.size + 1, 7, none⟩ (.slice E4 Pq.length g4)).setCell ⟨w.heap.size + 1, 8, none⟩ (.slice B5 pp.length e5)).setCell ⟨w.heap.size + 1, 9, none⟩ (.int .i64 m)) := ⟨_, rfl⟩
    have hBX : Boxy w6 wE := by rw [heE]; exact boxy
    have hBW : Below w.heap.size w wE := by rw [heE]; exact bel
    have hsE : wE.heap.size = w6.heap.size := by rw [heE]; simp [World.setCell]
    rw [← heE]
    clear heE
    have hr1 := unhide HR
    have ha1 := unhide HA
    have hOW : OwnW wE w.heap.size wE.heap.size B1 e1 B2q e2 B3 e3 E4 g4 B5 e5 (PDraft.mk d1 f1 ss1 d2 f2 ss2 st) Pq pp := OwnW.mk3 (ho_x_w6.boxy hBX) HPQ.out (ho_q_w6.boxy hBX) (ho_z_w6.boxy hBX) (by omega) (by omega)
    exact uwb_cast HR4.out ⟨B1, e1, B2q, e2, B3, e3, E4, g4, B5, e5, rfl, hOW, hBW⟩
  case false =>
    have hr4 := hno hc
    have HR4 := Lib.hid hr4
    have HN := Lib.hid hc
    clear hr4 hyes hno hc
    go_enter Tryz.func43, Tryz.ntmps43
    go_wp2_with fail
    obtain ⟨w1, he_w1⟩ : ∃ x, x = ((w.alloc (.cells #[.int .i64 d1, .int .i64 f1, .slice A1 ss1.length c1, .int .i64 d2, .int .i64 f2, .slice A2 ss2.length c2, .slice A3 st.length c3, .slice A4 P.length c4, .slice A5 pp.length c5, .int .i64 m] 41)).alloc (.cells #[.int .i64 0, .int .i64 0, .slice none 0 0, .int .i64 0, .int .i64 0, .slice none 0 0, .slice none 0 0, .slice none 0 0, .slice none 0 0, .int .i64 0] 41)) := ⟨_, rfl⟩
    have hk_a_w1 : w1.heap[w.heap.size]? = some (.cells #[.int .i64 d1, .int .i64 f1, .slice A1 ss1.length c1, .int .i64 d2, .int .i64 f2, .slice A2 ss2.length c2, .slice A3 st.length c3, .slice A4 P.length c4, .slice A5 pp.length c5, .int .i64 m] 41 (0, 0)) := by rw [he_w1]; exact (blk_alloc (blk_new_at w (.cells #[.int .i64 d1, .int .i64 f1, .slice A1 ss1.length c1, .int .i64 d2, .int .i64 f2, .slice A2 ss2.length c2, .slice A3 st.length c3, .slice A4 P.length c4, .slice A5 pp.length c5, .int .i64 m] 41) (k := w.heap.size) (by simp [World.setCell])) _)
    have hk_r_w1 : w1.heap[w.heap.size + 1]? = some (.cells #[.int .i64 0, .int .i64 0, .slice none 0 0, .int .i64 0, .int .i64 0, .slice none 0 0, .slice none 0 0, .slice none 0 0, .slice none 0 0, .int .i64 0] 41 (0, 0)) := by rw [he_w1]; exact (blk_new_at (w.alloc (.cells #[.int .i64 d1, .int .i64 f1, .slice A1 ss1.length c1, .int .i64 d2, .int .i64 f2, .slice A2 ss2.length c2, .slice A3 st.length c3, .slice A4 P.length c4, .slice A5 pp.length c5, .int .i64 m] 41)) (.cells #[.int .i64 0, .int .i64 0, .slice none 0 0, .int .i64 0, .int .i64 0, .slice none 0 0, .slice none 0 0, .slice none 0 0, .slice none 0 0, .int .i64 0] 41) (k := w.heap.size + 1) (by simp [World.setCell]))
    have hbw_w1 : Below w.heap.size w w1 := by rw [he_w1]; exact bel
    have hsw_w1 := hbw_w1.size
    have hch_w1 : w.heap.size ≤ w1.heap.size := by rw [he_w1]; simp [World.setCell]; try omega
    rw [← he_w1]
    clear he_w1
    refine (i_workCopied d1 f1 ss1 d2 f2 ss2 st P pp m B A1 A2 A3 A4 A5 c1 c2 c3 c4 c5 w1 (hS.below (hbw_w1.mono hB)) (Nat.le_trans hB hsw_w1)).mono ?_
    rintro e w2 ⟨B1, e1, B2q, e2, B3, e3, B4, e4, B5, e5, rfl, hon, hb_w2⟩
    obtain ⟨l1, h1_, l2, h2_, l3, h3_, L4, hr, ha, hx, hp4, hy, hz⟩ := hon.all
    have HP4 := Lib.hid hp4
    have HR := hide hr
    have HA := hide ha
    clear hon hr ha hp4
    have hk_a_w2 := blk_next hk_a_w1 hb_w2
    have hk_r_w2 := blk_next hk_r_w1 hb_w2
    have hbw_w2 : Below w.heap.size w w2 := hbw_w1.trans (hb_w2.mono hsw_w1)
    have hsw_w2 := hbw_w2.size
    have hch_w2 : w1.heap.size ≤ w2.heap.size := hb_w2.size
    clear hk_a_w1 hk_r_w1 hbw_w1 hsw_w1 hb_w2
    have ho_x_w2 := hx
    clear hx
    have ho_y_w2 := hy
    clear hy
    have ho_z_w2 := hz
    clear hz
    obtain ⟨x0_a, x1_a, x2_a, x3_a, x4_a, x5_a, x6_a, x7_a, x8_a, x9_a, xl_a⟩ := blk10 hk_a_w2
    go_wp2_with fail
    clear x0_a x1_a x2_a x3_a x4_a x5_a x6_a x7_a x8_a x9_a xl_a
    have hl_a := blk_lt hk_a_w2
    have hl_r := blk_lt hk_r_w2
    have hlt_a_w3 := blk_lt hk_a_w2
    have hlt_r_w3 := blk_lt hk_r_w2
    obtain ⟨w3, he_w3⟩ : ∃ x, x = (w2.alloc (.cells #[.int .i64 d1, .int .i64 f1, .slice B1 ss1.length e1, .int .i64 d2, .int .i64 f2, .slice B2q ss2.length e2, .slice B3 st.length e3, .slice B4 P.length e4, .slice B5 pp.length e5, .int .i64 m] 41)) := ⟨_, rfl⟩
    have hk_a_w3 : w3.heap[w.heap.size]? = some (.cells #[.int .i64 d1, .int .i64 f1, .slice A1 ss1.length c1, .int .i64 d2, .int .i64 f2, .slice A2 ss2.length c2, .slice A3 st.length c3, .slice A4 P.length c4, .slice A5 pp.length c5, .int .i64 m] 41 (0, 0)) := by rw [he_w3]; exact (blk_alloc hk_a_w2 _)
    have hk_r_w3 : w3.heap[w.heap.size + 1]? = some (.cells #[.int .i64 0, .int .i64 0, .slice none 0 0, .int .i64 0, .int .i64 0, .slice none 0 0, .slice none 0 0, .slice none 0 0, .slice none 0 0, .int .i64 0] 41 (0, 0)) := by rw [he_w3]; exact (blk_alloc hk_r_w2 _)
    have hk_o_w3 : w3.heap[w2.heap.size]? = some (.cells #[.int .i64 d1, .int .i64 f1, .slice B1 ss1.length e1, .int .i64 d2, .int .i64 f2, .slice B2q ss2.length e2, .slice B3 st.length e3, .slice B4 P.length e4, .slice B5 pp.length e5, .int .i64 m] 41 (0, 0)) := by rw [he_w3]; exact (blk_new_at w2 (.cells #[.int .i64 d1, .int .i64 f1, .slice B1 ss1.length e1, .int .i64 d2, .int .i64 f2, .slice B2q ss2.length e2, .slice B3 st.length e3, .slice B4 P.length e4, .slice B5 pp.length e5, .int .i64 m] 41) (k := w2.heap.size) (by simp [World.setCell]))
    have hBX : Boxy w2 w3 := by rw [he_w3]; exact boxy
    have ho_x_w3 := ho_x_w2.boxy hBX
    have ho_y_w3 := ho_y_w2.boxy hBX
    have ho_z_w3 := ho_z_w2.boxy hBX
    have hbw_w3 : Below w.heap.size w w3 := by rw [he_w3]; exact bel
    have hsw_w3 := hbw_w3.size
    have hch_w3 : w2.heap.size ≤ w3.heap.size := by rw [he_w3]; simp [World.setCell]; try omega
    rw [← he_w3]
    clear hk_a_w2 hk_r_w2 ho_x_w2 ho_y_w2 ho_z_w2 hl_a hl_r hBX hbw_w2 hsw_w2 he_w3
    refine (unhide HCALL _ hbw_w3).mono ?_
    rintro e w4 ⟨E4, g4, LQ, rfl, hpq, hon2, hb_w4⟩
    have HPQ := Lib.hid hpq
    clear hpq
    have hk_a_w4 := blk_next hk_a_w3 hb_w4
    have hk_r_w4 := blk_next hk_r_w3 hb_w4
    have hk_o_w4 := blk_next hk_o_w3 hb_w4
    have ho_x_w4 := ho_x_w3.below hb_w4
    have ho_y_w4 := ho_y_w3.below hb_w4
    have ho_z_w4 := ho_z_w3.below hb_w4
    have hbw_w4 : Below w.heap.size w w4 := hbw_w3.trans (hb_w4.mono hsw_w3)
    have hsw_w4 := hbw_w4.size
    have hch_w4 : w3.heap.size ≤ w4.heap.size := hb_w4.size
    clear hk_a_w3 hk_r_w3 hk_o_w3 ho_x_w3 ho_y_w3 ho_z_w3 hbw_w3 hsw_w3 hb_w4
    have ho_q_w4 := hon2
    clear hon2
    clear ho_y_w4
    obtain ⟨x0_a, x1_a, x2_a, x3_a, x4_a, x5_a, x6_a, x7_a, x8_a, x9_a, xl_a⟩ := blk10 hk_a_w4
    obtain ⟨x0_o, x1_o, x2_o, x3_o, x4_o, x5_o, x6_o, x7_o, x8_o, x9_o, xl_o⟩ := blk10 hk_o_w4
    have f0_o := (blk_cells hk_o_w4 0).2
    have f1_o := (blk_cells hk_o_w4 1).2
    have f2_o := (blk_cells hk_o_w4 2).2
    have f3_o := (blk_cells hk_o_w4 3).2
    have f4_o := (blk_cells hk_o_w4 4).2
    have f5_o := (blk_cells hk_o_w4 5).2
    have f6_o := (blk_cells hk_o_w4 6).2
    have f7_o := (blk_cells hk_o_w4 7).2
    have f8_o := (blk_cells hk_o_w4 8).2
    have f9_o := (blk_cells hk_o_w4 9).2
    go_wp2_with fail
    clear x0_a x1_a x2_a x3_a x4_a x5_a x6_a x7_a x8_a x9_a xl_a x0_o x1_o x2_o x3_o x4_o x5_o x6_o x7_o x8_o x9_o xl_o f0_o f1_o f2_o f3_o f4_o f5_o f6_o f7_o f8_o f9_o
    have hl_a := blk_lt hk_a_w4
    have hl_r := blk_lt hk_r_w4
    have hl_o := blk_lt hk_o_w4
    have hbx_o := boxAt_of hk_o_w4
    obtain ⟨w5, he_w5⟩ : ∃ x, x = (w4.setCell ⟨w2.heap.size, 7, none⟩ (.slice E4 Pq.length g4)) := ⟨_, rfl⟩
    have hk_a_w5 : w5.heap[w.heap.size]? = some (.cells #[.int .i64 d1, .int .i64 f1, .slice A1 ss1.length c1, .int .i64 d2, .int .i64 f2, .slice A2 ss2.length c2, .slice A3 st.length c3, .slice A4 P.length c4, .slice A5 pp.length c5, .int .i64 m] 41 (0, 0)) := by rw [he_w5]; exact (blk_other (p := ⟨w2.heap.size, 7, none⟩) hk_a_w4 (show ¬ w.heap.size = w2.heap.size by omega) (.slice E4 Pq.length g4))
    have hk_r_w5 : w5.heap[w.heap.size + 1]? = some (.cells #[.int .i64 0, .int .i64 0, .slice none 0 0, .int .i64 0, .int .i64 0, .slice none 0 0, .slice none 0 0, .slice none 0 0, .slice none 0 0, .int .i64 0] 41 (0, 0)) := by rw [he_w5]; exact (blk_other (p := ⟨w2.heap.size, 7, none⟩) hk_r_w4 (show ¬ w.heap.size + 1 = w2.heap.size by omega) (.slice E4 Pq.length g4))
    have hk_o_w5 : w5.heap[w2.heap.size]? = some (.cells #[.int .i64 d1, .int .i64 f1, .slice B1 ss1.length e1, .int .i64 d2, .int .i64 f2, .slice B2q ss2.length e2, .slice B3 st.length e3, .slice E4 Pq.length g4, .slice B5 pp.length e5, .int .i64 m] 41 (0, 0)) := by rw [he_w5]; have hq9 := (blk_set hk_o_w4 7 (.slice E4 Pq.length g4)); simpa using hq9
    have hBX : Boxy w4 w5 := by rw [he_w5]; exact boxy
    have ho_x_w5 := ho_x_w4.boxy hBX
    have ho_z_w5 := ho_z_w4.boxy hBX
    have ho_q_w5 := ho_q_w4.boxy hBX
    have hbw_w5 : Below w.heap.size w w5 := by rw [he_w5]; exact bel
    have hsw_w5 := hbw_w5.size
    have hch_w5 : w4.heap.size ≤ w5.heap.size := by rw [he_w5]; simp [World.setCell]; try omega
    rw [← he_w5]
    clear hk_a_w4 hk_r_w4 hk_o_w4 ho_x_w4 ho_z_w4 ho_q_w4 hl_a hl_r hl_o hbx_o hBX hbw_w4 hsw_w4 he_w5
    refine (i_wchanged_no d1 f1 ss1 d2 f2 ss2 st P pp m d1 f1 ss1 d2 f2 ss2 st Pq pp m A1 A2 A3 A4 A5 c1 c2 c3 c4 c5 B1 B2q B3 E4 B5 e1 e2 e3 g4 e5 bq B w5.heap.size w5 (hS.below (hbw_w5.mono hB)) (Nat.le_trans hB hsw_w5) ⟨ho_x_w5.rd ((unhide HOK).d.more (by omega)), ⟨LQ, HPQ.out, ho_q_w5.rdP HPQ.out ((unhide HOKX).more (by omega))⟩, ho_z_w5.rd (by have := (unhide HOK).p; omega), own_capU ho_q_w5.row⟩ (Nat.le_refl _) HN.out).mono ?_
    rintro e w6 ⟨G1, k1, G2, k2, G3, k3, G4, k4, G5, k5, rfl, hon3, hb_w6⟩
    have hk_a_w6 := blk_next hk_a_w5 hb_w6
    have hk_r_w6 := blk_next hk_r_w5 hb_w6
    have hk_o_w6 := blk_next hk_o_w5 hb_w6
    have ho_x_w6 := ho_x_w5.below hb_w6
    have ho_z_w6 := ho_z_w5.below hb_w6
    have ho_q_w6 := ho_q_w5.below hb_w6
    have hbw_w6 : Below w.heap.size w w6 := hbw_w5.trans (hb_w6.mono hsw_w5)
    have hsw_w6 := hbw_w6.size
    have hch_w6 : w5.heap.size ≤ w6.heap.size := hb_w6.size
    clear hk_a_w5 hk_r_w5 hk_o_w5 ho_x_w5 ho_z_w5 ho_q_w5 hbw_w5 hsw_w5 hb_w6
    have ho_n_w6 := hon3
    clear hon3
    clear ho_x_w6
    clear ho_z_w6
    clear ho_q_w6
    obtain ⟨x0_r, x1_r, x2_r, x3_r, x4_r, x5_r, x6_r, x7_r, x8_r, x9_r, xl_r⟩ := blk10 hk_r_w6
    have f0_r := (blk_cells hk_r_w6 0).2
    have f1_r := (blk_cells hk_r_w6 1).2
    have f2_r := (blk_cells hk_r_w6 2).2
    have f3_r := (blk_cells hk_r_w6 3).2
    have f4_r := (blk_cells hk_r_w6 4).2
    have f5_r := (blk_cells hk_r_w6 5).2
    have f6_r := (blk_cells hk_r_w6 6).2
    have f7_r := (blk_cells hk_r_w6 7).2
    have f8_r := (blk_cells hk_r_w6 8).2
    have f9_r := (blk_cells hk_r_w6 9).2
    go_wp2
    have hbx_r := boxAt_of hk_r_w6
    refine bodyPost_ret (v := .tuple #[.agg #[.int .i64 d1, .int .i64 f1, .slice G1 ss1.length k1, .int .i64 d2, .int .i64 f2, .slice G2 ss2.length k2, .slice G3 st.length k3, .slice G4 P.length k4, .slice G5 pp.length k5, .int .i64 m], .bool false]) (by simp [results, Tryz.results43, go_sem, *]) rfl ?_
    clear x0_r x1_r x2_r x3_r x4_r x5_r x6_r x7_r x8_r x9_r xl_r f0_r f1_r f2_r f3_r f4_r f5_r f6_r f7_r f8_r f9_r
    obtain ⟨wE, heE⟩ : ∃ x, x = ((((((((((w6.setCell ⟨w.heap.size + 1, 0, none⟩ (.int .i64 d1)).setCell ⟨w.heap.size + 1, 1, none⟩ (.int .i64 f1)).setCell ⟨w.heap.size + 1, 2, none⟩ (.slice G1 ss1.length k1)).setCell ⟨w.heap.size + 1, 3, none⟩ (.int .i64 d2)).setCell ⟨w.heap.size + 1, 4, none⟩ (.int .i64 f2)).setCell ⟨w.heap.size + 1, 5, none⟩ (.slice G2 ss2.length k2)).setCell ⟨w.heap.size + 1, 6, none⟩ (.slice G3 st.length k3)).setCell ⟨w.heap.size + 1, 7, none⟩ (.slice G4 P.length k4)).setCell ⟨w.heap.size + 1, 8, none⟩ (.slice G5 pp.length k5)).setCell ⟨w.heap.size + 1, 9, none⟩ (.int .i64 m)) := ⟨_, rfl⟩
    have hBX : Boxy w6 wE := by rw [heE]; exact boxy
    have hBW : Below w.heap.size w wE := by rw [heE]; exact bel
    have hsE : wE.heap.size = w6.heap.size := by rw [heE]; simp [World.setCell]
    rw [← heE]
    clear heE
    have hOW : OwnW wE w.heap.size wE.heap.size G1 k1 G2 k2 G3 k3 G4 k4 G5 k5 (PDraft.mk d1 f1 ss1 d2 f2 ss2 st) P pp := (ho_n_w6.boxy hBX).wide (by omega) (by omega)
    exact uwb_cast HR4.out ⟨G1, k1, G2, k2, G3, k3, G4, k4, G5, k5, rfl, hOW, hBW⟩
end Go.Proofs.YtdddglihomchfaaGreat
