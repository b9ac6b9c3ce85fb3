/- FnExactMakeCopies: the contracts behind it, part 7. -/
import Derived.Deep.DeepCutAuto
import Derived.Deep.RegionHeld3
import Derived.Deep.Slices
import Derived.Lib.SmallJoins
import Derived.SliceStrings
import Derived.Test.YtdddglihomchfaaGreatRows
import Derived.Test.YtdddglihomchfaaGreatQMakeCopiesf
namespace Go.Proofs.YtdddglihomchfaaGreat
open Go.ChangeShapes Go.WideShapes Go.ChangeAt Go.RowKit
set_option linter.unusedVariables false
set_option linter.unusedSimpArgs false
set_option maxRecDepth 10000
set_option maxHeartbeats 1600000 in
theorem s_MakeCopies (d1 f1 : Int) (ss1 : List ByteArray) (d2 f2 : Int) (ss2 : List ByteArray) (st : List PStep) (P : List PItem) (pp : List PPaper) (m : Int) (nm : ByteArray) (k n : Int) (B : Nat) (A1 A2 A3 A4 A5 : Option Addr) (c1 c2 c3 c4 c5 : Nat) (w : World) (hS : RdWork w B A1 A2 A3 A4 c4 A5 ⟨d1, f1, ss1, d2, f2, ss2, st⟩ P pp) (hB : B ≤ w.heap.size) (hok : OkWork (PDraft.mk d1 f1 ss1 d2 f2 ss2 st) P pp 1048576) :
    Calls Tryz.prog 40 #[.agg #[.int .i64 d1, .int .i64 f1, .slice A1 ss1.length c1, .int .i64 d2, .int .i64 f2, .slice A2 ss2.length c2, .slice A3 st.length c3, .slice A4 P.length c4, .slice A5 pp.length c5, .int .i64 m], .string nm, .int .i64 k, .int .i64 n] w (UWorkB (makeRes (PWork.mk (PDraft.mk d1 f1 ss1 d2 f2 ss2 st) P pp m) nm k n).1.D.d1 (makeRes (PWork.mk (PDraft.mk d1 f1 ss1 d2 f2 ss2 st) P pp m) nm k n).1.D.f1 (makeRes (PWork.mk (PDraft.mk d1 f1 ss1 d2 f2 ss2 st) P pp m) nm k n).1.D.ss1 (makeRes (PWork.mk (PDraft.mk d1 f1 ss1 d2 f2 ss2 st) P pp m) nm k n).1.D.d2 (makeRes (PWork.mk (PDraft.mk d1 f1 ss1 d2 f2 ss2 st) P pp m) nm k n).1.D.f2 (makeRes (PWork.mk (PDraft.mk d1 f1 ss1 d2 f2 ss2 st) P pp m) nm k n).1.D.ss2 (makeRes (PWork.mk (PDraft.mk d1 f1 ss1 d2 f2 ss2 st) P pp m) nm k n).1.D.st (makeRes (PWork.mk (PDraft.mk d1 f1 ss1 d2 f2 ss2 st) P pp m) nm k n).1.P (makeRes (PWork.mk (PDraft.mk d1 f1 ss1 d2 f2 ss2 st) P pp m) nm k n).1.pp (makeRes (PWork.mk (PDraft.mk d1 f1 ss1 d2 f2 ss2 st) P pp m) nm k n).1.m (makeRes (PWork.mk (PDraft.mk d1 f1 ss1 d2 f2 ss2 st) P pp m) nm k n).2 w) := by
  obtain ⟨L0, hpl, hL0⟩ := hS.i
  have HPL := Lib.hid hpl
  clear hpl
  have hcn := fun (W : World) (hW : Below w.heap.size w W) => s_CardNamed nm P B A4 P.length c4 L0 W HPL.out (hL0.below (hW.mono hB)) (Nat.le_trans hB hW.size)
  have hus := fun (W : World) (hW : Below w.heap.size w W) => s_UsePaper pp k n B A5 c5 W (hS.p.below (hW.mono hB)) (Nat.le_trans hB hW.size)
  have hul : (useRes pp k n).1.length ≤ 1048576 := by rw [useRes_len]; exact hok.p
  have hn1 := fun h => make_n1 (W := (PWork.mk (PDraft.mk d1 f1 ss1 d2 f2 ss2 st) P pp m)) (nm := nm) (k := k) (n := n) h
  have hn2 := fun h => make_n2 (W := (PWork.mk (PDraft.mk d1 f1 ss1 d2 f2 ss2 st) P pp m)) (nm := nm) (k := k) (n := n) h
  have hn3 := fun h => make_n3 (W := (PWork.mk (PDraft.mk d1 f1 ss1 d2 f2 ss2 st) P pp m)) (nm := nm) (k := k) (n := n) h
  have hn4 := fun h => make_n4 (W := (PWork.mk (PDraft.mk d1 f1 ss1 d2 f2 ss2 st) P pp m)) (nm := nm) (k := k) (n := n) h
  have hn5 := fun h => make_n5 (W := (PWork.mk (PDraft.mk d1 f1 ss1 d2 f2 ss2 st) P pp m)) (nm := nm) (k := k) (n := n) h
  have hy := fun h1 h2 h3 h4 h5 => make_y (W := (PWork.mk (PDraft.mk d1 f1 ss1 d2 f2 ss2 st) P pp m)) (nm := nm) (k := k) (n := n) h1 h2 h3 h4 h5
  simp only at hn2 hn3 hn4 hn5 hy
  generalize makeRes (PWork.mk (PDraft.mk d1 f1 ss1 d2 f2 ss2 st) P pp m) nm k n = R at *
  generalize named P nm = N at *
  generalize useRes pp k n = q at *
  obtain ⟨⟨dn, fn⟩, ssn, bn⟩ := N
  obtain ⟨ppq, bq⟩ := q
  simp only at hcn hus hul hn2 hn3 hn4 hn5 hy
  have HCN := hide hcn
  have HUS := hide hus
  have HUL := hide hul
  have HOK := hide hok
  clear hcn hus hul hok hL0
  cases hw1 : workOk (PWork.mk (PDraft.mk d1 f1 ss1 d2 f2 ss2 st) P pp m)
  case false =>
    have HR4 := Lib.hid (hn3 hw1)
    have HW1 := Lib.hid hw1
    clear hn1 hn2 hn3 hn4 hn5 hy hw1
    go_enter Tryz.func40, Tryz.ntmps40
    go_wp2_with fail
    obtain ⟨w1, he_w1⟩ : ∃ x, x = ((w.alloc (.cells #[.int .i64 d1, .int .i64 f1, .slice A1 ss1.length c1, .int .i64 d2, .int .i64 f2, .slice A2 ss2.length c2, .slice A3 st.length c3, .slice A4 P.length c4, .slice A5 pp.length c5, .int .i64 m] 41)).alloc (.cells #[.int .i64 0, .int .i64 0, .slice none 0 0, .int .i64 0, .int .i64 0, .slice none 0 0, .slice none 0 0, .slice none 0 0, .slice none 0 0, .int .i64 0] 41)) := ⟨_, rfl⟩
    have hk_a_w1 : w1.heap[w.heap.size]? = some (.cells #[.int .i64 d1, .int .i64 f1, .slice A1 ss1.length c1, .int .i64 d2, .int .i64 f2, .slice A2 ss2.length c2, .slice A3 st.length c3, .slice A4 P.length c4, .slice A5 pp.length c5, .int .i64 m] 41 (0, 0)) := by rw [he_w1]; exact (blk_alloc (blk_new_at w (.cells #[.int .i64 d1, .int .i64 f1, .slice A1 ss1.length c1, .int .i64 d2, .int .i64 f2, .slice A2 ss2.length c2, .slice A3 st.length c3, .slice A4 P.length c4, .slice A5 pp.length c5, .int .i64 m] 41) (k := w.heap.size) (by simp [World.setCell])) _)
    have hk_r_w1 : w1.heap[w.heap.size + 1]? = some (.cells #[.int .i64 0, .int .i64 0, .slice none 0 0, .int .i64 0, .int .i64 0, .slice none 0 0, .slice none 0 0, .slice none 0 0, .slice none 0 0, .int .i64 0] 41 (0, 0)) := by rw [he_w1]; exact (blk_new_at (w.alloc (.cells #[.int .i64 d1, .int .i64 f1, .slice A1 ss1.length c1, .int .i64 d2, .int .i64 f2, .slice A2 ss2.length c2, .slice A3 st.length c3, .slice A4 P.length c4, .slice A5 pp.length c5, .int .i64 m] 41)) (.cells #[.int .i64 0, .int .i64 0, .slice none 0 0, .int .i64 0, .int .i64 0, .slice none 0 0, .slice none 0 0, .slice none 0 0, .slice none 0 0, .int .i64 0] 41) (k := w.heap.size + 1) (by simp [World.setCell]))
    have hbw_w1 : Below w.heap.size w w1 := by rw [he_w1]; exact bel
    have hsw_w1 := hbw_w1.size
    have hch_w1 : w.heap.size ≤ w1.heap.size := by rw [he_w1]; simp [World.setCell]; try omega
    rw [← he_w1]
    clear he_w1
    refine (s_l38Copy d1 f1 ss1 d2 f2 ss2 st P pp m B A1 A2 A3 A4 A5 c1 c2 c3 c4 c5 w1 (hS.below (hbw_w1.mono hB)) (Nat.le_trans hB hsw_w1)).mono ?_
    rintro e w2 ⟨B1, e1, B2q, e2, B3, e3, B4, e4, B5, e5, rfl, hon, hb_w2⟩
    have hk_a_w2 := blk_next hk_a_w1 hb_w2
    have hk_r_w2 := blk_next hk_r_w1 hb_w2
    have hbw_w2 : Below w.heap.size w w2 := hbw_w1.trans (hb_w2.mono hsw_w1)
    have hsw_w2 := hbw_w2.size
    have hch_w2 : w1.heap.size ≤ w2.heap.size := hb_w2.size
    clear hk_a_w1 hk_r_w1 hbw_w1 hsw_w1 hb_w2
    have ho_c_w2 := hon
    clear hon
    obtain ⟨x0_a, x1_a, x2_a, x3_a, x4_a, x5_a, x6_a, x7_a, x8_a, x9_a, xl_a⟩ := blk10 hk_a_w2
    go_wp2_with fail
    clear x0_a x1_a x2_a x3_a x4_a x5_a x6_a x7_a x8_a x9_a xl_a
    have hl_a := blk_lt hk_a_w2
    have hl_r := blk_lt hk_r_w2
    have hlt_a_w3 := blk_lt hk_a_w2
    have hlt_r_w3 := blk_lt hk_r_w2
    obtain ⟨w3, he_w3⟩ : ∃ x, x = (w2.alloc (.cells #[.int .i64 d1, .int .i64 f1, .slice B1 ss1.length e1, .int .i64 d2, .int .i64 f2, .slice B2q ss2.length e2, .slice B3 st.length e3, .slice B4 P.length e4, .slice B5 pp.length e5, .int .i64 m] 41)) := ⟨_, rfl⟩
    have hk_a_w3 : w3.heap[w.heap.size]? = some (.cells #[.int .i64 d1, .int .i64 f1, .slice A1 ss1.length c1, .int .i64 d2, .int .i64 f2, .slice A2 ss2.length c2, .slice A3 st.length c3, .slice A4 P.length c4, .slice A5 pp.length c5, .int .i64 m] 41 (0, 0)) := by rw [he_w3]; exact (blk_alloc hk_a_w2 _)
    have hk_r_w3 : w3.heap[w.heap.size + 1]? = some (.cells #[.int .i64 0, .int .i64 0, .slice none 0 0, .int .i64 0, .int .i64 0, .slice none 0 0, .slice none 0 0, .slice none 0 0, .slice none 0 0, .int .i64 0] 41 (0, 0)) := by rw [he_w3]; exact (blk_alloc hk_r_w2 _)
    have hk_o_w3 : w3.heap[w2.heap.size]? = some (.cells #[.int .i64 d1, .int .i64 f1, .slice B1 ss1.length e1, .int .i64 d2, .int .i64 f2, .slice B2q ss2.length e2, .slice B3 st.length e3, .slice B4 P.length e4, .slice B5 pp.length e5, .int .i64 m] 41 (0, 0)) := by rw [he_w3]; exact (blk_new_at w2 (.cells #[.int .i64 d1, .int .i64 f1, .slice B1 ss1.length e1, .int .i64 d2, .int .i64 f2, .slice B2q ss2.length e2, .slice B3 st.length e3, .slice B4 P.length e4, .slice B5 pp.length e5, .int .i64 m] 41) (k := w2.heap.size) (by simp [World.setCell]))
    have hBX : Boxy w2 w3 := by rw [he_w3]; exact boxy
    have ho_c_w3 := ho_c_w2.boxy hBX
    have hbw_w3 : Below w.heap.size w w3 := by rw [he_w3]; exact bel
    have hsw_w3 := hbw_w3.size
    have hch_w3 : w2.heap.size ≤ w3.heap.size := by rw [he_w3]; simp [World.setCell]; try omega
    rw [← he_w3]
    clear hk_a_w2 hk_r_w2 ho_c_w2 hl_a hl_r hBX hbw_w2 hsw_w2 he_w3
    refine (s_WorkshopOk d1 f1 ss1 d2 f2 ss2 st P pp m B A1 A2 A3 A4 A5 c1 c2 c3 c4 c5 w3 (hS.below (hbw_w3.mono hB)) (Nat.le_trans hB hsw_w3)).mono ?_
    rw [HW1.out]
    rintro e w4 ⟨rfl, hb_w4⟩
    have hk_a_w4 := blk_next hk_a_w3 hb_w4
    have hk_r_w4 := blk_next hk_r_w3 hb_w4
    have hk_o_w4 := blk_next hk_o_w3 hb_w4
    have ho_c_w4 := ho_c_w3.below hb_w4
    have hbw_w4 : Below w.heap.size w w4 := hbw_w3.trans (hb_w4.mono hsw_w3)
    have hsw_w4 := hbw_w4.size
    have hch_w4 : w3.heap.size ≤ w4.heap.size := hb_w4.size
    clear hk_a_w3 hk_r_w3 hk_o_w3 ho_c_w3 hbw_w3 hsw_w3 hb_w4
    obtain ⟨x0_o, x1_o, x2_o, x3_o, x4_o, x5_o, x6_o, x7_o, x8_o, x9_o, xl_o⟩ := blk10 hk_o_w4
    obtain ⟨x0_r, x1_r, x2_r, x3_r, x4_r, x5_r, x6_r, x7_r, x8_r, x9_r, xl_r⟩ := blk10 hk_r_w4
    have f0_r := (blk_cells hk_r_w4 0).2
    have f1_r := (blk_cells hk_r_w4 1).2
    have f2_r := (blk_cells hk_r_w4 2).2
    have f3_r := (blk_cells hk_r_w4 3).2
    have f4_r := (blk_cells hk_r_w4 4).2
    have f5_r := (blk_cells hk_r_w4 5).2
    have f6_r := (blk_cells hk_r_w4 6).2
    have f7_r := (blk_cells hk_r_w4 7).2
    have f8_r := (blk_cells hk_r_w4 8).2
    have f9_r := (blk_cells hk_r_w4 9).2
    go_wp2
    have hbx_r := boxAt_of hk_r_w4
    refine bodyPost_ret (v := .tuple #[.agg #[.int .i64 d1, .int .i64 f1, .slice B1 ss1.length e1, .int .i64 d2, .int .i64 f2, .slice B2q ss2.length e2, .slice B3 st.length e3, .slice B4 P.length e4, .slice B5 pp.length e5, .int .i64 m], .bool false]) (by simp [results, Tryz.results40, go_sem, *]) rfl ?_
    clear x0_o x1_o x2_o x3_o x4_o x5_o x6_o x7_o x8_o x9_o xl_o x0_r x1_r x2_r x3_r x4_r x5_r x6_r x7_r x8_r x9_r xl_r f0_r f1_r f2_r f3_r f4_r f5_r f6_r f7_r f8_r f9_r
    obtain ⟨wE, heE⟩ : ∃ x, x = ((((((((((w4.setCell ⟨w.heap.size + 1, 0, none⟩ (.int .i64 d1)).setCell ⟨w.heap.size + 1, 1, none⟩ (.int .i64 f1)).setCell ⟨w.heap.size + 1, 2, none⟩ (.slice B1 ss1.length e1)).setCell ⟨w.heap.size + 1, 3, none⟩ (.int .i64 d2)).setCell ⟨w.heap.size + 1, 4, none⟩ (.int .i64 f2)).setCell ⟨w.heap.size + 1, 5, none⟩ (.slice B2q ss2.length e2)).setCell ⟨w.heap.size + 1, 6, none⟩ (.slice B3 st.length e3)).setCell ⟨w.heap.size + 1, 7, none⟩ (.slice B4 P.length e4)).setCell ⟨w.heap.size + 1, 8, none⟩ (.slice B5 pp.length e5)).setCell ⟨w.heap.size + 1, 9, none⟩ (.int .i64 m)) := ⟨_, rfl⟩
    have hBX : Boxy w4 wE := by rw [heE]; exact boxy
    have hBW : Below w.heap.size w wE := by rw [heE]; exact bel
    have hsE : wE.heap.size = w4.heap.size := by rw [heE]; simp [World.setCell]
    rw [← heE]
    clear heE
    have hOW : OwnW wE w.heap.size wE.heap.size B1 e1 B2q e2 B3 e3 B4 e4 B5 e5 (PDraft.mk d1 f1 ss1 d2 f2 ss2 st) P pp := (ho_c_w4.boxy hBX).wide (by omega) (by omega)
    exact uwb_cast HR4.out ⟨B1, e1, B2q, e2, B3, e3, B4, e4, B5, e5, rfl, hOW, hBW⟩
  case true =>
    have hmb := workOk_m hw1
    simp only at hmb
    cases hi : inB n 1 1000
    case false =>
      have HR4 := Lib.hid (hn1 hi)
      have HW1 := Lib.hid hw1
      have HI := Lib.hid hi
      clear hn1 hn2 hn3 hn4 hn5 hy hw1 hi
      go_enter Tryz.func40, Tryz.ntmps40
      go_wp2_with fail
      obtain ⟨w1, he_w1⟩ : ∃ x, x = ((w.alloc (.cells #[.int .i64 d1, .int .i64 f1, .slice A1 ss1.length c1, .int .i64 d2, .int .i64 f2, .slice A2 ss2.length c2, .slice A3 st.length c3, .slice A4 P.length c4, .slice A5 pp.length c5, .int .i64 m] 41)).alloc (.cells #[.int .i64 0, .int .i64 0, .slice none 0 0, .int .i64 0, .int .i64 0, .slice none 0 0, .slice none 0 0, .slice none 0 0, .slice none 0 0, .int .i64 0] 41)) := ⟨_, rfl⟩
      have hk_a_w1 : w1.heap[w.heap.size]? = some (.cells #[.int .i64 d1, .int .i64 f1, .slice A1 ss1.length c1, .int .i64 d2, .int .i64 f2, .slice A2 ss2.length c2, .slice A3 st.length c3, .slice A4 P.length c4, .slice A5 pp.length c5, .int .i64 m] 41 (0, 0)) := by rw [he_w1]; exact (blk_alloc (blk_new_at w (.cells #[.int .i64 d1, .int .i64 f1, .slice A1 ss1.length c1, .int .i64 d2, .int .i64 f2, .slice A2 ss2.length c2, .slice A3 st.length c3, .slice A4 P.length c4, .slice A5 pp.length c5, .int .i64 m] 41) (k := w.heap.size) (by simp [World.setCell])) _)
      have hk_r_w1 : w1.heap[w.heap.size + 1]? = some (.cells #[.int .i64 0, .int .i64 0, .slice none 0 0, .int .i64 0, .int .i64 0, .slice none 0 0, .slice none 0 0, .slice none 0 0, .slice none 0 0, .int .i64 0] 41 (0, 0)) := by rw [he_w1]; exact (blk_new_at (w.alloc (.cells #[.int .i64 d1, .int .i64 f1, .slice A1 ss1.length c1, .int .i64 d2, .int .i64 f2, .slice A2 ss2.length c2, .slice A3 st.length c3, .slice A4 P.length c4, .slice A5 pp.length c5, .int .i64 m] 41)) (.cells #[.int .i64 0, .int .i64 0, .slice none 0 0, .int .i64 0, .int .i64 0, .slice none 0 0, .slice none 0 0, .slice none 0 0, .slice none 0 0, .int .i64 0] 41) (k := w.heap.size + 1) (by simp [World.setCell]))
      have hbw_w1 : Below w.heap.size w w1 := by rw [he_w1]; exact bel
      have hsw_w1 := hbw_w1.size
      have hch_w1 : w.heap.size ≤ w1.heap.size := by rw [he_w1]; simp [World.setCell]; try omega
      rw [← he_w1]
      clear he_w1
      refine (s_l38Copy d1 f1 ss1 d2 f2 ss2 st P pp m B A1 A2 A3 A4 A5 c1 c2 c3 c4 c5 w1 (hS.below (hbw_w1.mono hB)) (Nat.le_trans hB hsw_w1)).mono ?_
      rintro e w2 ⟨B1, e1, B2q, e2, B3, e3, B4, e4, B5, e5, rfl, hon, hb_w2⟩
      have hk_a_w2 := blk_next hk_a_w1 hb_w2
      have hk_r_w2 := blk_next hk_r_w1 hb_w2
      have hbw_w2 : Below w.heap.size w w2 := hbw_w1.trans (hb_w2.mono hsw_w1)
      have hsw_w2 := hbw_w2.size
      have hch_w2 : w1.heap.size ≤ w2.heap.size := hb_w2.size
      clear hk_a_w1 hk_r_w1 hbw_w1 hsw_w1 hb_w2
      have ho_c_w2 := hon
      clear hon
      obtain ⟨x0_a, x1_a, x2_a, x3_a, x4_a, x5_a, x6_a, x7_a, x8_a, x9_a, xl_a⟩ := blk10 hk_a_w2
      go_wp2_with fail
      clear x0_a x1_a x2_a x3_a x4_a x5_a x6_a x7_a x8_a x9_a xl_a
      have hl_a := blk_lt hk_a_w2
      have hl_r := blk_lt hk_r_w2
      have hlt_a_w3 := blk_lt hk_a_w2
      have hlt_r_w3 := blk_lt hk_r_w2
      obtain ⟨w3, he_w3⟩ : ∃ x, x = (w2.alloc (.cells #[.int .i64 d1, .int .i64 f1, .slice B1 ss1.length e1, .int .i64 d2, .int .i64 f2, .slice B2q ss2.length e2, .slice B3 st.length e3, .slice B4 P.length e4, .slice B5 pp.length e5, .int .i64 m] 41)) := ⟨_, rfl⟩
      have hk_a_w3 : w3.heap[w.heap.size]? = some (.cells #[.int .i64 d1, .int .i64 f1, .slice A1 ss1.length c1, .int .i64 d2, .int .i64 f2, .slice A2 ss2.length c2, .slice A3 st.length c3, .slice A4 P.length c4, .slice A5 pp.length c5, .int .i64 m] 41 (0, 0)) := by rw [he_w3]; exact (blk_alloc hk_a_w2 _)
      have hk_r_w3 : w3.heap[w.heap.size + 1]? = some (.cells #[.int .i64 0, .int .i64 0, .slice none 0 0, .int .i64 0, .int .i64 0, .slice none 0 0, .slice none 0 0, .slice none 0 0, .slice none 0 0, .int .i64 0] 41 (0, 0)) := by rw [he_w3]; exact (blk_alloc hk_r_w2 _)
      have hk_o_w3 : w3.heap[w2.heap.size]? = some (.cells #[.int .i64 d1, .int .i64 f1, .slice B1 ss1.length e1, .int .i64 d2, .int .i64 f2, .slice B2q ss2.length e2, .slice B3 st.length e3, .slice B4 P.length e4, .slice B5 pp.length e5, .int .i64 m] 41 (0, 0)) := by rw [he_w3]; exact (blk_new_at w2 (.cells #[.int .i64 d1, .int .i64 f1, .slice B1 ss1.length e1, .int .i64 d2, .int .i64 f2, .slice B2q ss2.length e2, .slice B3 st.length e3, .slice B4 P.length e4, .slice B5 pp.length e5, .int .i64 m] 41) (k := w2.heap.size) (by simp [World.setCell]))
      have hBX : Boxy w2 w3 := by rw [he_w3]; exact boxy
      have ho_c_w3 := ho_c_w2.boxy hBX
      have hbw_w3 : Below w.heap.size w w3 := by rw [he_w3]; exact bel
      have hsw_w3 := hbw_w3.size
      have hch_w3 : w2.heap.size ≤ w3.heap.size := by rw [he_w3]; simp [World.setCell]; try omega
      rw [← he_w3]
      clear hk_a_w2 hk_r_w2 ho_c_w2 hl_a hl_r hBX hbw_w2 hsw_w2 he_w3
      refine (s_WorkshopOk d1 f1 ss1 d2 f2 ss2 st P pp m B A1 A2 A3 A4 A5 c1 c2 c3 c4 c5 w3 (hS.below (hbw_w3.mono hB)) (Nat.le_trans hB hsw_w3)).mono ?_
      rw [HW1.out]
      rintro e w4 ⟨rfl, hb_w4⟩
      have hk_a_w4 := blk_next hk_a_w3 hb_w4
      have hk_r_w4 := blk_next hk_r_w3 hb_w4
      have hk_o_w4 := blk_next hk_o_w3 hb_w4
      have ho_c_w4 := ho_c_w3.below hb_w4
      have hbw_w4 : Below w.heap.size w w4 := hbw_w3.trans (hb_w4.mono hsw_w3)
      have hsw_w4 := hbw_w4.size
      have hch_w4 : w3.heap.size ≤ w4.heap.size := hb_w4.size
      clear hk_a_w3 hk_r_w3 hk_o_w3 ho_c_w3 hbw_w3 hsw_w3 hb_w4
      obtain ⟨x0_o, x1_o, x2_o, x3_o, x4_o, x5_o, x6_o, x7_o, x8_o, x9_o, xl_o⟩ := blk10 hk_o_w4
      obtain ⟨x0_r, x1_r, x2_r, x3_r, x4_r, x5_r, x6_r, x7_r, x8_r, x9_r, xl_r⟩ := blk10 hk_r_w4
      have f0_r := (blk_cells hk_r_w4 0).2
      have f1_r := (blk_cells hk_r_w4 1).2
      have f2_r := (blk_cells hk_r_w4 2).2
      have f3_r := (blk_cells hk_r_w4 3).2
      have f4_r := (blk_cells hk_r_w4 4).2
      have f5_r := (blk_cells hk_r_w4 5).2
      have f6_r := (blk_cells hk_r_w4 6).2
      have f7_r := (blk_cells hk_r_w4 7).2
      have f8_r := (blk_cells hk_r_w4 8).2
      have f9_r := (blk_cells hk_r_w4 9).2
      go_wp2_with (go_at_call 65; refine (s_l01In _ _ _ _).mono ?_; rintro e w' ⟨rfl, rfl⟩; rw [HI.out])
      have hbx_r := boxAt_of hk_r_w4
      refine bodyPost_ret (v := .tuple #[.agg #[.int .i64 d1, .int .i64 f1, .slice B1 ss1.length e1, .int .i64 d2, .int .i64 f2, .slice B2q ss2.length e2, .slice B3 st.length e3, .slice B4 P.length e4, .slice B5 pp.length e5, .int .i64 m], .bool false]) (by simp [results, Tryz.results40, go_sem, *]) rfl ?_
      clear x0_o x1_o x2_o x3_o x4_o x5_o x6_o x7_o x8_o x9_o xl_o x0_r x1_r x2_r x3_r x4_r x5_r x6_r x7_r x8_r x9_r xl_r f0_r f1_r f2_r f3_r f4_r f5_r f6_r f7_r f8_r f9_r
      obtain ⟨wE, heE⟩ : ∃ x, x = ((((((((((w4.setCell ⟨w.heap.size + 1, 0, none⟩ (.int .i64 d1)).setCell ⟨w.heap.size + 1, 1, none⟩ (.int .i64 f1)).setCell ⟨w.heap.size + 1, 2, none⟩ (.slice B1 ss1.length e1)).setCell ⟨w.heap.size + 1, 3, none⟩ (.int .i64 d2)).setCell ⟨w.heap.size + 1, 4, none⟩ (.int .i64 f2)).setCell ⟨w.heap.size + 1, 5, none⟩ (.slice B2q ss2.length e2)).setCell ⟨w.heap.size + 1, 6, none⟩ (.slice B3 st.length e3)).setCell ⟨w.heap.size + 1, 7, none⟩ (.slice B4 P.length e4)).setCell ⟨w.heap.size + 1, 8, none⟩ (.slice B5 pp.length e5)).setCell ⟨w.heap.size + 1, 9, none⟩ (.int .i64 m)) := ⟨_, rfl⟩
      have hBX : Boxy w4 wE := by rw [heE]; exact boxy
      have hBW : Below w.heap.size w wE := by rw [heE]; exact bel
      have hsE : wE.heap.size = w4.heap.size := by rw [heE]; simp [World.setCell]
      rw [← heE]
      clear heE
      have hOW : OwnW wE w.heap.size wE.heap.size B1 e1 B2q e2 B3 e3 B4 e4 B5 e5 (PDraft.mk d1 f1 ss1 d2 f2 ss2 st) P pp := (ho_c_w4.boxy hBX).wide (by omega) (by omega)
      exact uwb_cast HR4.out ⟨B1, e1, B2q, e2, B3, e3, B4, e4, B5, e5, rfl, hOW, hBW⟩
    case true =>
      have hnb := inB_iff'.1 hi
      have hw5 : IntKind.i64.wrap (5 * n) = 5 * n := by rw [IntKind.wrap_i64]; omega
      have hw6 : IntKind.i64.wrap (m + 5 * n) = m + 5 * n := by rw [IntKind.wrap_i64]; omega
      clear hnb hmb
      cases bn
      case false =>
        have HR4 := Lib.hid (hn2 rfl)
        have HW1 := Lib.hid hw1
        have HI := Lib.hid hi
        clear hn1 hn2 hn3 hn4 hn5 hy hw1 hi
        go_enter Tryz.func40, Tryz.ntmps40
        go_wp2_with fail
        obtain ⟨w1, he_w1⟩ : ∃ x, x = ((w.alloc (.cells #[.int .i64 d1, .int .i64 f1, .slice A1 ss1.length c1, .int .i64 d2, .int .i64 f2, .slice A2 ss2.length c2, .slice A3 st.length c3, .slice A4 P.length c4, .slice A5 pp.length c5, .int .i64 m] 41)).alloc (.cells #[.int .i64 0, .int .i64 0, .slice none 0 0, .int .i64 0, .int .i64 0, .slice none 0 0, .slice none 0 0, .slice none 0 0, .slice none 0 0, .int .i64 0] 41)) := ⟨_, rfl⟩
        have hk_a_w1 : w1.heap[w.heap.size]? = some (.cells #[.int .i64 d1, .int .i64 f1, .slice A1 ss1.length c1, .int .i64 d2, .int .i64 f2, .slice A2 ss2.length c2, .slice A3 st.length c3, .slice A4 P.length c4, .slice A5 pp.length c5, .int .i64 m] 41 (0, 0)) := by rw [he_w1]; exact (blk_alloc (blk_new_at w (.cells #[.int .i64 d1, .int .i64 f1, .slice A1 ss1.length c1, .int .i64 d2, .int .i64 f2, .slice A2 ss2.length c2, .slice A3 st.length c3, .slice A4 P.length c4, .slice A5 pp.length c5, .int .i64 m] 41) (k := w.heap.size) (by simp [World.setCell])) _)
        have hk_r_w1 : w1.heap[w.heap.size + 1]? = some (.cells #[.int .i64 0, .int .i64 0, .slice none 0 0, .int .i64 0, .int .i64 0, .slice none 0 0, .slice none 0 0, .slice none 0 0, .slice none 0 0, .int .i64 0] 41 (0, 0)) := by rw [he_w1]; exact (blk_new_at (w.alloc (.cells #[.int .i64 d1, .int .i64 f1, .slice A1 ss1.length c1, .int .i64 d2, .int .i64 f2, .slice A2 ss2.length c2, .slice A3 st.length c3, .slice A4 P.length c4, .slice A5 pp.length c5, .int .i64 m] 41)) (.cells #[.int .i64 0, .int .i64 0, .slice none 0 0, .int .i64 0, .int .i64 0, .slice none 0 0, .slice none 0 0, .slice none 0 0, .slice none 0 0, .int .i64 0] 41) (k := w.heap.size + 1) (by simp [World.setCell]))
        have hbw_w1 : Below w.heap.size w w1 := by rw [he_w1]; exact bel
        have hsw_w1 := hbw_w1.size
        have hch_w1 : w.heap.size ≤ w1.heap.size := by rw [he_w1]; simp [World.setCell]; try omega
        rw [← he_w1]
        clear he_w1
        refine (s_l38Copy d1 f1 ss1 d2 f2 ss2 st P pp m B A1 A2 A3 A4 A5 c1 c2 c3 c4 c5 w1 (hS.below (hbw_w1.mono hB)) (Nat.le_trans hB hsw_w1)).mono ?_
        rintro e w2 ⟨B1, e1, B2q, e2, B3, e3, B4, e4, B5, e5, rfl, hon, hb_w2⟩
        have hk_a_w2 := blk_next hk_a_w1 hb_w2
        have hk_r_w2 := blk_next hk_r_w1 hb_w2
        have hbw_w2 : Below w.heap.size w w2 := hbw_w1.trans (hb_w2.mono hsw_w1)
        have hsw_w2 := hbw_w2.size
        have hch_w2 : w1.heap.size ≤ w2.heap.size := hb_w2.size
        clear hk_a_w1 hk_r_w1 hbw_w1 hsw_w1 hb_w2
        have ho_c_w2 := hon
        clear hon
        obtain ⟨x0_a, x1_a, x2_a, x3_a, x4_a, x5_a, x6_a, x7_a, x8_a, x9_a, xl_a⟩ := blk10 hk_a_w2
        go_wp2_with fail
        clear x0_a x1_a x2_a x3_a x4_a x5_a x6_a x7_a x8_a x9_a xl_a
        have hl_a := blk_lt hk_a_w2
        have hl_r := blk_lt hk_r_w2
        have hlt_a_w3 := blk_lt hk_a_w2
        have hlt_r_w3 := blk_lt hk_r_w2
        obtain ⟨w3, he_w3⟩ : ∃ x, x = (w2.alloc (.cells #[.int .i64 d1, .int .i64 f1, .slice B1 ss1.length e1, .int .i64 d2, .int .i64 f2, .slice B2q ss2.length e2, .slice B3 st.length e3, .slice B4 P.length e4, .slice B5 pp.length e5, .int .i64 m] 41)) := ⟨_, rfl⟩
        have hk_a_w3 : w3.heap[w.heap.size]? = some (.cells #[.int .i64 d1, .int .i64 f1, .slice A1 ss1.length c1, .int .i64 d2, .int .i64 f2, .slice A2 ss2.length c2, .slice A3 st.length c3, .slice A4 P.length c4, .slice A5 pp.length c5, .int .i64 m] 41 (0, 0)) := by rw [he_w3]; exact (blk_alloc hk_a_w2 _)
        have hk_r_w3 : w3.heap[w.heap.size + 1]? = some (.cells #[.int .i64 0, .int .i64 0, .slice none 0 0, .int .i64 0, .int .i64 0, .slice none 0 0, .slice none 0 0, .slice none 0 0, .slice none 0 0, .int .i64 0] 41 (0, 0)) := by rw [he_w3]; exact (blk_alloc hk_r_w2 _)
        have hk_o_w3 : w3.heap[w2.heap.size]? = some (.cells #[.int .i64 d1, .int .i64 f1, .slice B1 ss1.length e1, .int .i64 d2, .int .i64 f2, .slice B2q ss2.length e2, .slice B3 st.length e3, .slice B4 P.length e4, .slice B5 pp.length e5, .int .i64 m] 41 (0, 0)) := by rw [he_w3]; exact (blk_new_at w2 (.cells #[.int .i64 d1, .int .i64 f1, .slice B1 ss1.length e1, .int .i64 d2, .int .i64 f2, .slice B2q ss2.length e2, .slice B3 st.length e3, .slice B4 P.length e4, .slice B5 pp.length e5, .int .i64 m] 41) (k := w2.heap.size) (by simp [World.setCell]))
        have hBX : Boxy w2 w3 := by rw [he_w3]; exact boxy
        have ho_c_w3 := ho_c_w2.boxy hBX
        have hbw_w3 : Below w.heap.size w w3 := by rw [he_w3]; exact bel
        have hsw_w3 := hbw_w3.size
        have hch_w3 : w2.heap.size ≤ w3.heap.size := by rw [he_w3]; simp [World.setCell]; try omega
        rw [← he_w3]
        clear hk_a_w2 hk_r_w2 ho_c_w2 hl_a hl_r hBX hbw_w2 hsw_w2 he_w3
        refine (s_WorkshopOk d1 f1 ss1 d2 f2 ss2 st P pp m B A1 A2 A3 A4 A5 c1 c2 c3 c4 c5 w3 (hS.below (hbw_w3.mono hB)) (Nat.le_trans hB hsw_w3)).mono ?_
        rw [HW1.out]
        rintro e w4 ⟨rfl, hb_w4⟩
        have hk_a_w4 := blk_next hk_a_w3 hb_w4
        have hk_r_w4 := blk_next hk_r_w3 hb_w4
        have hk_o_w4 := blk_next hk_o_w3 hb_w4
        have ho_c_w4 := ho_c_w3.below hb_w4
        have hbw_w4 : Below w.heap.size w w4 := hbw_w3.trans (hb_w4.mono hsw_w3)
        have hsw_w4 := hbw_w4.size
        have hch_w4 : w3.heap.size ≤ w4.heap.size := hb_w4.size
        clear hk_a_w3 hk_r_w3 hk_o_w3 ho_c_w3 hbw_w3 hsw_w3 hb_w4
        obtain ⟨x0_a, x1_a, x2_a, x3_a, x4_a, x5_a, x6_a, x7_a, x8_a, x9_a, xl_a⟩ := blk10 hk_a_w4
        go_wp2_with (go_at_call 65; refine (s_l01In _ _ _ _).mono ?_; rintro e w' ⟨rfl, rfl⟩; rw [HI.out])
        clear x0_a x1_a x2_a x3_a x4_a x5_a x6_a x7_a x8_a x9_a xl_a
        refine (unhide HCN _ hbw_w4).mono ?_
        rintro e w5 ⟨E2, g2, rfl, hon2, hb_w5⟩
        have hk_a_w5 := blk_next hk_a_w4 hb_w5
        have hk_r_w5 := blk_next hk_r_w4 hb_w5
        have hk_o_w5 := blk_next hk_o_w4 hb_w5
        have ho_c_w5 := ho_c_w4.below hb_w5
        have hbw_w5 : Below w.heap.size w w5 := hbw_w4.trans (hb_w5.mono hsw_w4)
        have hsw_w5 := hbw_w5.size
        have hch_w5 : w4.heap.size ≤ w5.heap.size := hb_w5.size
        clear hk_a_w4 hk_r_w4 hk_o_w4 ho_c_w4 hbw_w4 hsw_w4 hb_w5
        have ho_nm_w5 := hon2
        clear hon2
        clear ho_nm_w5
        obtain ⟨x0_a, x1_a, x2_a, x3_a, x4_a, x5_a, x6_a, x7_a, x8_a, x9_a, xl_a⟩ := blk10 hk_a_w5
        go_wp2_with fail
        clear x0_a x1_a x2_a x3_a x4_a x5_a x6_a x7_a x8_a x9_a xl_a
        have hl_a := blk_lt hk_a_w5
        have hl_r := blk_lt hk_r_w5
        have hl_o := blk_lt hk_o_w5
        have hlt_a_w6 := blk_lt hk_a_w5
        have hlt_r_w6 := blk_lt hk_r_w5
        have hlt_o_w6 := blk_lt hk_o_w5
        obtain ⟨w6, he_w6⟩ : ∃ x, x = (w5.alloc (.cells #[.int .i64 dn, .int .i64 fn, .slice E2 ssn.length g2] 34)) := ⟨_, rfl⟩
        have hk_a_w6 : w6.heap[w.heap.size]? = some (.cells #[.int .i64 d1, .int .i64 f1, .slice A1 ss1.length c1, .int .i64 d2, .int .i64 f2, .slice A2 ss2.length c2, .slice A3 st.length c3, .slice A4 P.length c4, .slice A5 pp.length c5, .int .i64 m] 41 (0, 0)) := by rw [he_w6]; exact (blk_alloc hk_a_w5 _)
        have hk_r_w6 : w6.heap[w.heap.size + 1]? = some (.cells #[.int .i64 0, .int .i64 0, .slice none 0 0, .int .i64 0, .int .i64 0, .slice none 0 0, .slice none 0 0, .slice none 0 0, .slice none 0 0, .int .i64 0] 41 (0, 0)) := by rw [he_w6]; exact (blk_alloc hk_r_w5 _)
        have hk_o_w6 : w6.heap[w2.heap.size]? = some (.cells #[.int .i64 d1, .int .i64 f1, .slice B1 ss1.length e1, .int .i64 d2, .int .i64 f2, .slice B2q ss2.length e2, .slice B3 st.length e3, .slice B4 P.length e4, .slice B5 pp.length e5, .int .i64 m] 41 (0, 0)) := by rw [he_w6]; exact (blk_alloc hk_o_w5 _)
        have hk_cd_w6 : w6.heap[w5.heap.size]? = some (.cells #[.int .i64 dn, .int .i64 fn, .slice E2 ssn.length g2] 34 (0, 0)) := by rw [he_w6]; exact (blk_new_at w5 (.cells #[.int .i64 dn, .int .i64 fn, .slice E2 ssn.length g2] 34) (k := w5.heap.size) (by simp [World.setCell]))
        have hBX : Boxy w5 w6 := by rw [he_w6]; exact boxy
        have ho_c_w6 := ho_c_w5.boxy hBX
        have hbw_w6 : Below w.heap.size w w6 := by rw [he_w6]; exact bel
        have hsw_w6 := hbw_w6.size
        have hch_w6 : w5.heap.size ≤ w6.heap.size := by rw [he_w6]; simp [World.setCell]; try omega
        rw [← he_w6]
        clear hk_a_w5 hk_r_w5 hk_o_w5 ho_c_w5 hl_a hl_r hl_o hBX hbw_w5 hsw_w5 he_w6
        refine (unhide HUS _ hbw_w6).mono ?_
        rintro e w7 ⟨E5, g5, rfl, hon5, hb_w7⟩
        have hk_a_w7 := blk_next hk_a_w6 hb_w7
        have hk_r_w7 := blk_next hk_r_w6 hb_w7
        have hk_o_w7 := blk_next hk_o_w6 hb_w7
        have hk_cd_w7 := blk_next hk_cd_w6 hb_w7
        have ho_c_w7 := ho_c_w6.below hb_w7
        have hbw_w7 : Below w.heap.size w w7 := hbw_w6.trans (hb_w7.mono hsw_w6)
        have hsw_w7 := hbw_w7.size
        have hch_w7 : w6.heap.size ≤ w7.heap.size := hb_w7.size
        clear hk_a_w6 hk_r_w6 hk_o_w6 hk_cd_w6 ho_c_w6 hbw_w6 hsw_w6 hb_w7
        have ho_q_w7 := hon5
        clear hon5
        clear ho_q_w7
        obtain ⟨x0_o, x1_o, x2_o, x3_o, x4_o, x5_o, x6_o, x7_o, x8_o, x9_o, xl_o⟩ := blk10 hk_o_w7
        obtain ⟨x0_r, x1_r, x2_r, x3_r, x4_r, x5_r, x6_r, x7_r, x8_r, x9_r, xl_r⟩ := blk10 hk_r_w7
        have f0_r := (blk_cells hk_r_w7 0).2
        have f1_r := (blk_cells hk_r_w7 1).2
        have f2_r := (blk_cells hk_r_w7 2).2
        have f3_r := (blk_cells hk_r_w7 3).2
        have f4_r := (blk_cells hk_r_w7 4).2
        have f5_r := (blk_cells hk_r_w7 5).2
        have f6_r := (blk_cells hk_r_w7 6).2
        have f7_r := (blk_cells hk_r_w7 7).2
        have f8_r := (blk_cells hk_r_w7 8).2
        have f9_r := (blk_cells hk_r_w7 9).2
        go_wp2
        have hbx_r := boxAt_of hk_r_w7
        refine bodyPost_ret (v := .tuple #[.agg #[.int .i64 d1, .int .i64 f1, .slice B1 ss1.length e1, .int .i64 d2, .int .i64 f2, .slice B2q ss2.length e2, .slice B3 st.length e3, .slice B4 P.length e4, .slice B5 pp.length e5, .int .i64 m], .bool false]) (by simp [results, Tryz.results40, go_sem, *]) rfl ?_
        clear x0_o x1_o x2_o x3_o x4_o x5_o x6_o x7_o x8_o x9_o xl_o x0_r x1_r x2_r x3_r x4_r x5_r x6_r x7_r x8_r x9_r xl_r f0_r f1_r f2_r f3_r f4_r f5_r f6_r f7_r f8_r f9_r
        obtain ⟨wE, heE⟩ : ∃ x, x = ((((((((((w7.setCell ⟨w.heap.size + 1, 0, none⟩ (.int .i64 d1)).setCell ⟨w.heap.size + 1, 1, none⟩ (.int .i64 f1)).setCell ⟨w.heap.size + 1, 2, none⟩ (.slice B1 ss1.length e1)).setCell ⟨w.heap.size + 1, 3, none⟩ (.int .i64 d2)).setCell ⟨w.heap.size + 1, 4, none⟩ (.int .i64 f2)).setCell ⟨w.heap.size + 1, 5, none⟩ (.slice B2q ss2.length e2)).setCell ⟨w.heap.size + 1, 6, none⟩ (.slice B3 st.length e3)).setCell ⟨w.heap.size + 1, 7, none⟩ (.slice B4 P.length e4)).setCell ⟨w.heap.size + 1, 8, none⟩ (.slice B5 pp.length e5)).setCell ⟨w.heap.size + 1, 9, none⟩ (.int .i64 m)) := ⟨_, rfl⟩
        have hBX : Boxy w7 wE := by rw [heE]; exact boxy
        have hBW : Below w.heap.size w wE := by rw [heE]; exact bel
        have hsE : wE.heap.size = w7.heap.size := by rw [heE]; simp [World.setCell]
        rw [← heE]
        clear heE
        have hOW : OwnW wE w.heap.size wE.heap.size B1 e1 B2q e2 B3 e3 B4 e4 B5 e5 (PDraft.mk d1 f1 ss1 d2 f2 ss2 st) P pp := (ho_c_w7.boxy hBX).wide (by omega) (by omega)
        exact uwb_cast HR4.out ⟨B1, e1, B2q, e2, B3, e3, B4, e4, B5, e5, rfl, hOW, hBW⟩
      case true =>
        cases bq
        case false =>
          have HR4 := Lib.hid (hn4 rfl)
          have HW1 := Lib.hid hw1
          have HI := Lib.hid hi
          clear hn1 hn2 hn3 hn4 hn5 hy hw1 hi
          go_enter Tryz.func40, Tryz.ntmps40
          go_wp2_with fail
          obtain ⟨w1, he_w1⟩ : ∃ x, x = ((w.alloc (.cells #[.int .i64 d1, .int .i64 f1, .slice A1 ss1.length c1, .int .i64 d2, .int .i64 f2, .slice A2 ss2.length c2, .slice A3 st.length c3, .slice A4 P.length c4, .slice A5 pp.length c5, .int .i64 m] 41)).alloc (.cells #[.int .i64 0, .int .i64 0, .slice none 0 0, .int .i64 0, .int .i64 0, .slice none 0 0, .slice none 0 0, .slice none 0 0, .slice none 0 0, .int .i64 0] 41)) := ⟨_, rfl⟩
          have hk_a_w1 : w1.heap[w.heap.size]? = some (.cells #[.int .i64 d1, .int .i64 f1, .slice A1 ss1.length c1, .int .i64 d2, .int .i64 f2, .slice A2 ss2.length c2, .slice A3 st.length c3, .slice A4 P.length c4, .slice A5 pp.length c5, .int .i64 m] 41 (0, 0)) := by rw [he_w1]; exact (blk_alloc (blk_new_at w (.cells #[.int .i64 d1, .int .i64 f1, .slice A1 ss1.length c1, .int .i64 d2, .int .i64 f2, .slice A2 ss2.length c2, .slice A3 st.length c3, .slice A4 P.length c4, .slice A5 pp.length c5, .int .i64 m] 41) (k := w.heap.size) (by simp [World.setCell])) _)
          have hk_r_w1 : w1.heap[w.heap.size + 1]? = some (.cells #[.int .i64 0, .int .i64 0, .slice none 0 0, .int .i64 0, .int .i64 0, .slice none 0 0, .slice none 0 0, .slice none 0 0, .slice none 0 0, .int .i64 0] 41 (0, 0)) := by rw [he_w1]; exact (blk_new_at (w.alloc (.cells #[.int .i64 d1, .int .i64 f1, .slice A1 ss1.length c1, .int .i64 d2, .int .i64 f2, .slice A2 ss2.length c2, .slice A3 st.length c3, .slice A4 P.length c4, .slice A5 pp.length c5, .int .i64 m] 41)) (.cells #[.int .i64 0, .int .i64 0, .slice none 0 0, .int .i64 0, .int .i64 0, .slice none 0 0, .slice none 0 0, .slice none 0 0, .slice none 0 0, .int .i64 0] 41) (k := w.heap.size + 1) (by simp [World.setCell]))
          have hbw_w1 : Below w.heap.size w w1 := by rw [he_w1]; exact bel
          have hsw_w1 := hbw_w1.size
          have hch_w1 : w.heap.size ≤ w1.heap.size := by rw [he_w1]; simp [World.setCell]; try omega
          rw [← he_w1]
          clear he_w1
          refine (s_l38Copy d1 f1 ss1 d2 f2 ss2 st P pp m B A1 A2 A3 A4 A5 c1 c2 c3 c4 c5 w1 (hS.below (hbw_w1.mono hB)) (Nat.le_trans hB hsw_w1)).mono ?_
          rintro e w2 ⟨B1, e1, B2q, e2, B3, e3, B4, e4, B5, e5, rfl, hon, hb_w2⟩
          have hk_a_w2 := blk_next hk_a_w1 hb_w2
          have hk_r_w2 := blk_next hk_r_w1 hb_w2
          have hbw_w2 : Below w.heap.size w w2 := hbw_w1.trans (hb_w2.mono hsw_w1)
          have hsw_w2 := hbw_w2.size
          have hch_w2 : w1.heap.size ≤ w2.heap.size := hb_w2.size
          clear hk_a_w1 hk_r_w1 hbw_w1 hsw_w1 hb_w2
          have ho_c_w2 := hon
          clear hon
          obtain ⟨x0_a, x1_a, x2_a, x3_a, x4_a, x5_a, x6_a, x7_a, x8_a, x9_a, xl_a⟩ := blk10 hk_a_w2
          go_wp2_with fail
          clear x0_a x1_a x2_a x3_a x4_a x5_a x6_a x7_a x8_a x9_a xl_a
          have hl_a := blk_lt hk_a_w2
          have hl_r := blk_lt hk_r_w2
          have hlt_a_w3 := blk_lt hk_a_w2
          have hlt_r_w3 := blk_lt hk_r_w2
          obtain ⟨w3, he_w3⟩ : ∃ x, x = (w2.alloc (.cells #[.int .i64 d1, .int .i64 f1, .slice B1 ss1.length e1, .int .i64 d2, .int .i64 f2, .slice B2q ss2.length e2, .slice B3 st.length e3, .slice B4 P.length e4, .slice B5 pp.length e5, .int .i64 m] 41)) := ⟨_, rfl⟩
          have hk_a_w3 : w3.heap[w.heap.size]? = some (.cells #[.int .i64 d1, .int .i64 f1, .slice A1 ss1.length c1, .int .i64 d2, .int .i64 f2, .slice A2 ss2.length c2, .slice A3 st.length c3, .slice A4 P.length c4, .slice A5 pp.length c5, .int .i64 m] 41 (0, 0)) := by rw [he_w3]; exact (blk_alloc hk_a_w2 _)
          have hk_r_w3 : w3.heap[w.heap.size + 1]? = some (.cells #[.int .i64 0, .int .i64 0, .slice none 0 0, .int .i64 0, .int .i64 0, .slice none 0 0, .slice none 0 0, .slice none 0 0, .slice none 0 0, .int .i64 0] 41 (0, 0)) := by rw [he_w3]; exact (blk_alloc hk_r_w2 _)
          have hk_o_w3 : w3.heap[w2.heap.size]? = some (.cells #[.int .i64 d1, .int .i64 f1, .slice B1 ss1.length e1, .int .i64 d2, .int .i64 f2, .slice B2q ss2.length e2, .slice B3 st.length e3, .slice B4 P.length e4, .slice B5 pp.length e5, .int .i64 m] 41 (0, 0)) := by rw [he_w3]; exact (blk_new_at w2 (.cells #[.int .i64 d1, .int .i64 f1, .slice B1 ss1.length e1, .int .i64 d2, .int .i64 f2, .slice B2q ss2.length e2, .slice B3 st.length e3, .slice B4 P.length e4, .slice B5 pp.length e5, .int .i64 m] 41) (k := w2.heap.size) (by simp [World.setCell]))
          have hBX : Boxy w2 w3 := by rw [he_w3]; exact boxy
          have ho_c_w3 := ho_c_w2.boxy hBX
          have hbw_w3 : Below w.heap.size w w3 := by rw [he_w3]; exact bel
          have hsw_w3 := hbw_w3.size
          have hch_w3 : w2.heap.size ≤ w3.heap.size := by rw [he_w3]; simp [World.setCell]; try omega
          rw [← he_w3]
          clear hk_a_w2 hk_r_w2 ho_c_w2 hl_a hl_r hBX hbw_w2 hsw_w2 he_w3
          refine (s_WorkshopOk d1 f1 ss1 d2 f2 ss2 st P pp m B A1 A2 A3 A4 A5 c1 c2 c3 c4 c5 w3 (hS.below (hbw_w3.mono hB)) (Nat.le_trans hB hsw_w3)).mono ?_
          rw [HW1.out]
          rintro e w4 ⟨rfl, hb_w4⟩
          have hk_a_w4 := blk_next hk_a_w3 hb_w4
          have hk_r_w4 := blk_next hk_r_w3 hb_w4
          have hk_o_w4 := blk_next hk_o_w3 hb_w4
          have ho_c_w4 := ho_c_w3.below hb_w4
          have hbw_w4 : Below w.heap.size w w4 := hbw_w3.trans (hb_w4.mono hsw_w3)
          have hsw_w4 := hbw_w4.size
          have hch_w4 : w3.heap.size ≤ w4.heap.size := hb_w4.size
          clear hk_a_w3 hk_r_w3 hk_o_w3 ho_c_w3 hbw_w3 hsw_w3 hb_w4
          obtain ⟨x0_a, x1_a, x2_a, x3_a, x4_a, x5_a, x6_a, x7_a, x8_a, x9_a, xl_a⟩ := blk10 hk_a_w4
          go_wp2_with (go_at_call 65; refine (s_l01In _ _ _ _).mono ?_; rintro e w' ⟨rfl, rfl⟩; rw [HI.out])
          clear x0_a x1_a x2_a x3_a x4_a x5_a x6_a x7_a x8_a x9_a xl_a
          refine (unhide HCN _ hbw_w4).mono ?_
          rintro e w5 ⟨E2, g2, rfl, hon2, hb_w5⟩
          have hk_a_w5 := blk_next hk_a_w4 hb_w5
          have hk_r_w5 := blk_next hk_r_w4 hb_w5
          have hk_o_w5 := blk_next hk_o_w4 hb_w5
          have ho_c_w5 := ho_c_w4.below hb_w5
          have hbw_w5 : Below w.heap.size w w5 := hbw_w4.trans (hb_w5.mono hsw_w4)
          have hsw_w5 := hbw_w5.size
          have hch_w5 : w4.heap.size ≤ w5.heap.size := hb_w5.size
          clear hk_a_w4 hk_r_w4 hk_o_w4 ho_c_w4 hbw_w4 hsw_w4 hb_w5
          have ho_nm_w5 := hon2
          clear hon2
          clear ho_nm_w5
          obtain ⟨x0_a, x1_a, x2_a, x3_a, x4_a, x5_a, x6_a, x7_a, x8_a, x9_a, xl_a⟩ := blk10 hk_a_w5
          go_wp2_with fail
          clear x0_a x1_a x2_a x3_a x4_a x5_a x6_a x7_a x8_a x9_a xl_a
          have hl_a := blk_lt hk_a_w5
          have hl_r := blk_lt hk_r_w5
          have hl_o := blk_lt hk_o_w5
          have hlt_a_w6 := blk_lt hk_a_w5
          have hlt_r_w6 := blk_lt hk_r_w5
          have hlt_o_w6 := blk_lt hk_o_w5
          obtain ⟨w6, he_w6⟩ : ∃ x, x = (w5.alloc (.cells #[.int .i64 dn, .int .i64 fn, .slice E2 ssn.length g2] 34)) := ⟨_, rfl⟩
          have hk_a_w6 : w6.heap[w.heap.size]? = some (.cells #[.int .i64 d1, .int .i64 f1, .slice A1 ss1.length c1, .int .i64 d2, .int .i64 f2, .slice A2 ss2.length c2, .slice A3 st.length c3, .slice A4 P.length c4, .slice A5 pp.length c5, .int .i64 m] 41 (0, 0)) := by rw [he_w6]; exact (blk_alloc hk_a_w5 _)
          have hk_r_w6 : w6.heap[w.heap.size + 1]? = some (.cells #[.int .i64 0, .int .i64 0, .slice none 0 0, .int .i64 0, .int .i64 0, .slice none 0 0, .slice none 0 0, .slice none 0 0, .slice none 0 0, .int .i64 0] 41 (0, 0)) := by rw [he_w6]; exact (blk_alloc hk_r_w5 _)
          have hk_o_w6 : w6.heap[w2.heap.size]? = some (.cells #[.int .i64 d1, .int .i64 f1, .slice B1 ss1.length e1, .int .i64 d2, .int .i64 f2, .slice B2q ss2.length e2, .slice B3 st.length e3, .slice B4 P.length e4, .slice B5 pp.length e5, .int .i64 m] 41 (0, 0)) := by rw [he_w6]; exact (blk_alloc hk_o_w5 _)
          have hk_cd_w6 : w6.heap[w5.heap.size]? = some (.cells #[.int .i64 dn, .int .i64 fn, .slice E2 ssn.length g2] 34 (0, 0)) := by rw [he_w6]; exact (blk_new_at w5 (.cells #[.int .i64 dn, .int .i64 fn, .slice E2 ssn.length g2] 34) (k := w5.heap.size) (by simp [World.setCell]))
          have hBX : Boxy w5 w6 := by rw [he_w6]; exact boxy
          have ho_c_w6 := ho_c_w5.boxy hBX
          have hbw_w6 : Below w.heap.size w w6 := by rw [he_w6]; exact bel
          have hsw_w6 := hbw_w6.size
          have hch_w6 : w5.heap.size ≤ w6.heap.size := by rw [he_w6]; simp [World.setCell]; try omega
          rw [← he_w6]
          clear hk_a_w5 hk_r_w5 hk_o_w5 ho_c_w5 hl_a hl_r hl_o hBX hbw_w5 hsw_w5 he_w6
          refine (unhide HUS _ hbw_w6).mono ?_
          rintro e w7 ⟨E5, g5, rfl, hon5, hb_w7⟩
          have hk_a_w7 := blk_next hk_a_w6 hb_w7
          have hk_r_w7 := blk_next hk_r_w6 hb_w7
          have hk_o_w7 := blk_next hk_o_w6 hb_w7
          have hk_cd_w7 := blk_next hk_cd_w6 hb_w7
          have ho_c_w7 := ho_c_w6.below hb_w7
          have hbw_w7 : Below w.heap.size w w7 := hbw_w6.trans (hb_w7.mono hsw_w6)
          have hsw_w7 := hbw_w7.size
          have hch_w7 : w6.heap.size ≤ w7.heap.size := hb_w7.size
          clear hk_a_w6 hk_r_w6 hk_o_w6 hk_cd_w6 ho_c_w6 hbw_w6 hsw_w6 hb_w7
          have ho_q_w7 := hon5
          clear hon5
          clear ho_q_w7
          obtain ⟨x0_o, x1_o, x2_o, x3_o, x4_o, x5_o, x6_o, x7_o, x8_o, x9_o, xl_o⟩ := blk10 hk_o_w7
          obtain ⟨x0_r, x1_r, x2_r, x3_r, x4_r, x5_r, x6_r, x7_r, x8_r, x9_r, xl_r⟩ := blk10 hk_r_w7
          have f0_r := (blk_cells hk_r_w7 0).2
          have f1_r := (blk_cells hk_r_w7 1).2
          have f2_r := (blk_cells hk_r_w7 2).2
          have f3_r := (blk_cells hk_r_w7 3).2
          have f4_r := (blk_cells hk_r_w7 4).2
          have f5_r := (blk_cells hk_r_w7 5).2
          have f6_r := (blk_cells hk_r_w7 6).2
          have f7_r := (blk_cells hk_r_w7 7).2
          have f8_r := (blk_cells hk_r_w7 8).2
          have f9_r := (blk_cells hk_r_w7 9).2
          go_wp2
          have hbx_r := boxAt_of hk_r_w7
          refine bodyPost_ret (v := .tuple #[.agg #[.int .i64 d1, .int .i64 f1, .slice B1 ss1.length e1, .int .i64 d2, .int .i64 f2, .slice B2q ss2.length e2, .slice B3 st.length e3, .slice B4 P.length e4, .slice B5 pp.length e5, .int .i64 m], .bool false]) (by simp [results, Tryz.results40, go_sem, *]) rfl ?_
          clear x0_o x1_o x2_o x3_o x4_o x5_o x6_o x7_o x8_o x9_o xl_o x0_r x1_r x2_r x3_r x4_r x5_r x6_r x7_r x8_r x9_r xl_r f0_r f1_r f2_r f3_r f4_r f5_r f6_r f7_r f8_r f9_r
          obtain ⟨wE, heE⟩ : ∃ x, x = ((((((((((w7.setCell ⟨w.heap.size + 1, 0, none⟩ (.int .i64 d1)).setCell ⟨w.heap.size + 1, 1, none⟩ (.int .i64 f1)).setCell ⟨w.heap.size + 1, 2, none⟩ (.slice B1 ss1.length e1)).setCell ⟨w.heap.size + 1, 3, none⟩ (.int .i64 d2)).setCell ⟨w.heap.size + 1, 4, none⟩ (.int .i64 f2)).setCell ⟨w.heap.size + 1, 5, none⟩ (.slice B2q ss2.length e2)).setCell ⟨w.heap.size + 1, 6, none⟩ (.slice B3 st.length e3)).setCell ⟨w.heap.size + 1, 7, none⟩ (.slice B4 P.length e4)).setCell ⟨w.heap.size + 1, 8, none⟩ (.slice B5 pp.length e5)).setCell ⟨w.heap.size + 1, 9, none⟩ (.int .i64 m)) := ⟨_, rfl⟩
          have hBX : Boxy w7 wE := by rw [heE]; exact boxy
          have hBW : Below w.heap.size w wE := by rw [heE]; exact bel
          have hsE : wE.heap.size = w7.heap.size := by rw [heE]; simp [World.setCell]
          rw [← heE]
          clear heE
          have hOW : OwnW wE w.heap.size wE.heap.size B1 e1 B2q e2 B3 e3 B4 e4 B5 e5 (PDraft.mk d1 f1 ss1 d2 f2 ss2 st) P pp := (ho_c_w7.boxy hBX).wide (by omega) (by omega)
          exact uwb_cast HR4.out ⟨B1, e1, B2q, e2, B3, e3, B4, e4, B5, e5, rfl, hOW, hBW⟩
        case true =>
          by_cases h5 : 1000000 < m + 5 * n
          · have HR4 := Lib.hid (hn5 h5)
            have HW1 := Lib.hid hw1
            have HI := Lib.hid hi
            clear hn1 hn2 hn3 hn4 hn5 hy hw1 hi
            go_enter Tryz.func40, Tryz.ntmps40
            go_wp2_with fail
            obtain ⟨w1, he_w1⟩ : ∃ x, x = ((w.alloc (.cells #[.int .i64 d1, .int .i64 f1, .slice A1 ss1.length c1, .int .i64 d2, .int .i64 f2, .slice A2 ss2.length c2, .slice A3 st.length c3, .slice A4 P.length c4, .slice A5 pp.length c5, .int .i64 m] 41)).alloc (.cells #[.int .i64 0, .int .i64 0, .slice none 0 0, .int .i64 0, .int .i64 0, .slice none 0 0, .slice none 0 0, .slice none 0 0, .slice none 0 0, .int .i64 0] 41)) := ⟨_, rfl⟩
            have hk_a_w1 : w1.heap[w.heap.size]? = some (.cells #[.int .i64 d1, .int .i64 f1, .slice A1 ss1.length c1, .int .i64 d2, .int .i64 f2, .slice A2 ss2.length c2, .slice A3 st.length c3, .slice A4 P.length c4, .slice A5 pp.length c5, .int .i64 m] 41 (0, 0)) := by rw [he_w1]; exact (blk_alloc (blk_new_at w (.cells #[.int .i64 d1, .int .i64 f1, .slice A1 ss1.length c1, .int .i64 d2, .int .i64 f2, .slice A2 ss2.length c2, .slice A3 st.length c3, .slice A4 P.length c4, .slice A5 pp.length c5, .int .i64 m] 41) (k := w.heap.size) (by simp [World.setCell])) _)
            have hk_r_w1 : w1.heap[w.heap.size + 1]? = some (.cells #[.int .i64 0, .int .i64 0, .slice none 0 0, .int .i64 0, .int .i64 0, .slice none 0 0, .slice none 0 0, .slice none 0 0, .slice none 0 0, .int .i64 0] 41 (0, 0)) := by rw [he_w1]; exact (blk_new_at (w.alloc (.cells #[.int .i64 d1, .int .i64 f1, .slice A1 ss1.length c1, .int .i64 d2, .int .i64 f2, .slice A2 ss2.length c2, .slice A3 st.length c3, .slice A4 P.length c4, .slice A5 pp.length c5, .int .i64 m] 41)) (.cells #[.int .i64 0, .int .i64 0, .slice none 0 0, .int .i64 0, .int .i64 0, .slice none 0 0, .slice none 0 0, .slice none 0 0, .slice none 0 0, .int .i64 0] 41) (k := w.heap.size + 1) (by simp [World.setCell]))
            have hbw_w1 : Below w.heap.size w w1 := by rw [he_w1]; exact bel
            have hsw_w1 := hbw_w1.size
            have hch_w1 : w.heap.size ≤ w1.heap.size := by rw [he_w1]; simp [World.setCell]; try omega
            rw [← he_w1]
            clear he_w1
            refine (s_l38Copy d1 f1 ss1 d2 f2 ss2 st P pp m B A1 A2 A3 A4 A5 c1 c2 c3 c4 c5 w1 (hS.below (hbw_w1.mono hB)) (Nat.le_trans hB hsw_w1)).mono ?_
            rintro e w2 ⟨B1, e1, B2q, e2, B3, e3, B4, e4, B5, e5, rfl, hon, hb_w2⟩
            have hk_a_w2 := blk_next hk_a_w1 hb_w2
            have hk_r_w2 := blk_next hk_r_w1 hb_w2
            have hbw_w2 : Below w.heap.size w w2 := hbw_w1.trans (hb_w2.mono hsw_w1)
            have hsw_w2 := hbw_w2.size
            have hch_w2 : w1.heap.size ≤ w2.heap.size := hb_w2.size
            clear hk_a_w1 hk_r_w1 hbw_w1 hsw_w1 hb_w2
            have ho_c_w2 := hon
            clear hon
            obtain ⟨x0_a, x1_a, x2_a, x3_a, x4_a, x5_a, x6_a, x7_a, x8_a, x9_a, xl_a⟩ := blk10 hk_a_w2
            go_wp2_with fail
            clear x0_a x1_a x2_a x3_a x4_a x5_a x6_a x7_a x8_a x9_a xl_a
            have hl_a := blk_lt hk_a_w2
            have hl_r := blk_lt hk_r_w2
            have hlt_a_w3 := blk_lt hk_a_w2
            have hlt_r_w3 := blk_lt hk_r_w2
            obtain ⟨w3, he_w3⟩ : ∃ x, x = (w2.alloc (.cells #[.int .i64 d1, .int .i64 f1, .slice B1 ss1.length e1, .int .i64 d2, .int .i64 f2, .slice B2q ss2.length e2, .slice B3 st.length e3, .slice B4 P.length e4, .slice B5 pp.length e5, .int .i64 m] 41)) := ⟨_, rfl⟩
            have hk_a_w3 : w3.heap[w.heap.size]? = some (.cells #[.int .i64 d1, .int .i64 f1, .slice A1 ss1.length c1, .int .i64 d2, .int .i64 f2, .slice A2 ss2.length c2, .slice A3 st.length c3, .slice A4 P.length c4, .slice A5 pp.length c5, .int .i64 m] 41 (0, 0)) := by rw [he_w3]; exact (blk_alloc hk_a_w2 _)
            have hk_r_w3 : w3.heap[w.heap.size + 1]? = some (.cells #[.int .i64 0, .int .i64 0, .slice none 0 0, .int .i64 0, .int .i64 0, .slice none 0 0, .slice none 0 0, .slice none 0 0, .slice none 0 0, .int .i64 0] 41 (0, 0)) := by rw [he_w3]; exact (blk_alloc hk_r_w2 _)
            have hk_o_w3 : w3.heap[w2.heap.size]? = some (.cells #[.int .i64 d1, .int .i64 f1, .slice B1 ss1.length e1, .int .i64 d2, .int .i64 f2, .slice B2q ss2.length e2, .slice B3 st.length e3, .slice B4 P.length e4, .slice B5 pp.length e5, .int .i64 m] 41 (0, 0)) := by rw [he_w3]; exact (blk_new_at w2 (.cells #[.int .i64 d1, .int .i64 f1, .slice B1 ss1.length e1, .int .i64 d2, .int .i64 f2, .slice B2q ss2.length e2, .slice B3 st.length e3, .slice B4 P.length e4, .slice B5 pp.length e5, .int .i64 m] 41) (k := w2.heap.size) (by simp [World.setCell]))
            have hBX : Boxy w2 w3 := by rw [he_w3]; exact boxy
            have ho_c_w3 := ho_c_w2.boxy hBX
            have hbw_w3 : Below w.heap.size w w3 := by rw [he_w3]; exact bel
            have hsw_w3 := hbw_w3.size
            have hch_w3 : w2.heap.size ≤ w3.heap.size := by rw [he_w3]; simp [World.setCell]; try omega
            rw [← he_w3]
            clear hk_a_w2 hk_r_w2 ho_c_w2 hl_a hl_r hBX hbw_w2 hsw_w2 he_w3
            refine (s_WorkshopOk d1 f1 ss1 d2 f2 ss2 st P pp m B A1 A2 A3 A4 A5 c1 c2 c3 c4 c5 w3 (hS.below (hbw_w3.mono hB)) (Nat.le_trans hB hsw_w3)).mono ?_
            rw [HW1.out]
            rintro e w4 ⟨rfl, hb_w4⟩
            have hk_a_w4 := blk_next hk_a_w3 hb_w4
            have hk_r_w4 := blk_next hk_r_w3 hb_w4
            have hk_o_w4 := blk_next hk_o_w3 hb_w4
            have ho_c_w4 := ho_c_w3.below hb_w4
            have hbw_w4 : Below w.heap.size w w4 := hbw_w3.trans (hb_w4.mono hsw_w3)
            have hsw_w4 := hbw_w4.size
            have hch_w4 : w3.heap.size ≤ w4.heap.size := hb_w4.size
            clear hk_a_w3 hk_r_w3 hk_o_w3 ho_c_w3 hbw_w3 hsw_w3 hb_w4
            obtain ⟨x0_a, x1_a, x2_a, x3_a, x4_a, x5_a, x6_a, x7_a, x8_a, x9_a, xl_a⟩ := blk10 hk_a_w4
            go_wp2_with (go_at_call 65; refine (s_l01In _ _ _ _).mono ?_; rintro e w' ⟨rfl, rfl⟩; rw [HI.out])
            clear x0_a x1_a x2_a x3_a x4_a x5_a x6_a x7_a x8_a x9_a xl_a
            refine (unhide HCN _ hbw_w4).mono ?_
            rintro e w5 ⟨E2, g2, rfl, hon2, hb_w5⟩
            have hk_a_w5 := blk_next hk_a_w4 hb_w5
            have hk_r_w5 := blk_next hk_r_w4 hb_w5
            have hk_o_w5 := blk_next hk_o_w4 hb_w5
            have ho_c_w5 := ho_c_w4.below hb_w5
            have hbw_w5 : Below w.heap.size w w5 := hbw_w4.trans (hb_w5.mono hsw_w4)
            have hsw_w5 := hbw_w5.size
            have hch_w5 : w4.heap.size ≤ w5.heap.size := hb_w5.size
            clear hk_a_w4 hk_r_w4 hk_o_w4 ho_c_w4 hbw_w4 hsw_w4 hb_w5
            have ho_nm_w5 := hon2
            clear hon2
            clear ho_nm_w5
            obtain ⟨x0_a, x1_a, x2_a, x3_a, x4_a, x5_a, x6_a, x7_a, x8_a, x9_a, xl_a⟩ := blk10 hk_a_w5
            go_wp2_with fail
            clear x0_a x1_a x2_a x3_a x4_a x5_a x6_a x7_a x8_a x9_a xl_a
            have hl_a := blk_lt hk_a_w5
            have hl_r := blk_lt hk_r_w5
            have hl_o := blk_lt hk_o_w5
            have hlt_a_w6 := blk_lt hk_a_w5
            have hlt_r_w6 := blk_lt hk_r_w5
            have hlt_o_w6 := blk_lt hk_o_w5
            obtain ⟨w6, he_w6⟩ : ∃ x, x = (w5.alloc (.cells #[.int .i64 dn, .int .i64 fn, .slice E2 ssn.length g2] 34)) := ⟨_, rfl⟩
            have hk_a_w6 : w6.heap[w.heap.size]? = some (.cells #[.int .i64 d1, .int .i64 f1, .slice A1 ss1.length c1, .int .i64 d2, .int .i64 f2, .slice A2 ss2.length c2, .slice A3 st.length c3, .slice A4 P.length c4, .slice A5 pp.length c5, .int .i64 m] 41 (0, 0)) := by rw [he_w6]; exact (blk_alloc hk_a_w5 _)
            have hk_r_w6 : w6.heap[w.heap.size + 1]? = some (.cells #[.int .i64 0, .int .i64 0, .slice none 0 0, .int .i64 0, .int .i64 0, .slice none 0 0, .slice none 0 0, .slice none 0 0, .slice none 0 0, .int .i64 0] 41 (0, 0)) := by rw [he_w6]; exact (blk_alloc hk_r_w5 _)
            have hk_o_w6 : w6.heap[w2.heap.size]? = some (.cells #[.int .i64 d1, .int .i64 f1, .slice B1 ss1.length e1, .int .i64 d2, .int .i64 f2, .slice B2q ss2.length e2, .slice B3 st.length e3, .slice B4 P.length e4, .slice B5 pp.length e5, .int .i64 m] 41 (0, 0)) := by rw [he_w6]; exact (blk_alloc hk_o_w5 _)
            have hk_cd_w6 : w6.heap[w5.heap.size]? = some (.cells #[.int .i64 dn, .int .i64 fn, .slice E2 ssn.length g2] 34 (0, 0)) := by rw [he_w6]; exact (blk_new_at w5 (.cells #[.int .i64 dn, .int .i64 fn, .slice E2 ssn.length g2] 34) (k := w5.heap.size) (by simp [World.setCell]))
            have hBX : Boxy w5 w6 := by rw [he_w6]; exact boxy
            have ho_c_w6 := ho_c_w5.boxy hBX
            have hbw_w6 : Below w.heap.size w w6 := by rw [he_w6]; exact bel
            have hsw_w6 := hbw_w6.size
            have hch_w6 : w5.heap.size ≤ w6.heap.size := by rw [he_w6]; simp [World.setCell]; try omega
            rw [← he_w6]
            clear hk_a_w5 hk_r_w5 hk_o_w5 ho_c_w5 hl_a hl_r hl_o hBX hbw_w5 hsw_w5 he_w6
            refine (unhide HUS _ hbw_w6).mono ?_
            rintro e w7 ⟨E5, g5, rfl, hon5, hb_w7⟩
            have hk_a_w7 := blk_next hk_a_w6 hb_w7
            have hk_r_w7 := blk_next hk_r_w6 hb_w7
            have hk_o_w7 := blk_next hk_o_w6 hb_w7
            have hk_cd_w7 := blk_next hk_cd_w6 hb_w7
            have ho_c_w7 := ho_c_w6.below hb_w7
            have hbw_w7 : Below w.heap.size w w7 := hbw_w6.trans (hb_w7.mono hsw_w6)
            have hsw_w7 := hbw_w7.size
            have hch_w7 : w6.heap.size ≤ w7.heap.size := hb_w7.size
            clear hk_a_w6 hk_r_w6 hk_o_w6 hk_cd_w6 ho_c_w6 hbw_w6 hsw_w6 hb_w7
            have ho_q_w7 := hon5
            clear hon5
            clear ho_q_w7
            obtain ⟨x0_o, x1_o, x2_o, x3_o, x4_o, x5_o, x6_o, x7_o, x8_o, x9_o, xl_o⟩ := blk10 hk_o_w7
            obtain ⟨x0_r, x1_r, x2_r, x3_r, x4_r, x5_r, x6_r, x7_r, x8_r, x9_r, xl_r⟩ := blk10 hk_r_w7
            obtain ⟨x0_a, x1_a, x2_a, x3_a, x4_a, x5_a, x6_a, x7_a, x8_a, x9_a, xl_a⟩ := blk10 hk_a_w7
            have f0_r := (blk_cells hk_r_w7 0).2
            have f1_r := (blk_cells hk_r_w7 1).2
            have f2_r := (blk_cells hk_r_w7 2).2
            have f3_r := (blk_cells hk_r_w7 3).2
            have f4_r := (blk_cells hk_r_w7 4).2
            have f5_r := (blk_cells hk_r_w7 5).2
            have f6_r := (blk_cells hk_r_w7 6).2
            have f7_r := (blk_cells hk_r_w7 7).2
            have f8_r := (blk_cells hk_r_w7 8).2
            have f9_r := (blk_cells hk_r_w7 9).2
            go_wp2
            have hbx_r := boxAt_of hk_r_w7
            refine bodyPost_ret (v := .tuple #[.agg #[.int .i64 d1, .int .i64 f1, .slice B1 ss1.length e1, .int .i64 d2, .int .i64 f2, .slice B2q ss2.length e2, .slice B3 st.length e3, .slice B4 P.length e4, .slice B5 pp.length e5, .int .i64 m], .bool false]) (by simp [results, Tryz.results40, go_sem, *]) rfl ?_
            clear x0_o x1_o x2_o x3_o x4_o x5_o x6_o x7_o x8_o x9_o xl_o x0_r x1_r x2_r x3_r x4_r x5_r x6_r x7_r x8_r x9_r xl_r x0_a x1_a x2_a x3_a x4_a x5_a x6_a x7_a x8_a x9_a xl_a f0_r f1_r f2_r f3_r f4_r f5_r f6_r f7_r f8_r f9_r
            obtain ⟨wE, heE⟩ : ∃ x, x = ((((((((((w7.setCell ⟨w.heap.size + 1, 0, none⟩ (.int .i64 d1)).setCell ⟨w.heap.size + 1, 1, none⟩ (.int .i64 f1)).setCell ⟨w.heap.size + 1, 2, none⟩ (.slice B1 ss1.length e1)).setCell ⟨w.heap.size + 1, 3, none⟩ (.int .i64 d2)).setCell ⟨w.heap.size + 1, 4, none⟩ (.int .i64 f2)).setCell ⟨w.heap.size + 1, 5, none⟩ (.slice B2q ss2.length e2)).setCell ⟨w.heap.size + 1, 6, none⟩ (.slice B3 st.length e3)).setCell ⟨w.heap.size + 1, 7, none⟩ (.slice B4 P.length e4)).setCell ⟨w.heap.size + 1, 8, none⟩ (.slice B5 pp.length e5)).setCell ⟨w.heap.size + 1, 9, none⟩ (.int .i64 m)) := ⟨_, rfl⟩
            have hBX : Boxy w7 wE := by rw [heE]; exact boxy
            have hBW : Below w.heap.size w wE := by rw [heE]; exact bel
            have hsE : wE.heap.size = w7.heap.size := by rw [heE]; simp [World.setCell]
            rw [← heE]
            clear heE
            have hOW : OwnW wE w.heap.size wE.heap.size B1 e1 B2q e2 B3 e3 B4 e4 B5 e5 (PDraft.mk d1 f1 ss1 d2 f2 ss2 st) P pp := (ho_c_w7.boxy hBX).wide (by omega) (by omega)
            exact uwb_cast HR4.out ⟨B1, e1, B2q, e2, B3, e3, B4, e4, B5, e5, rfl, hOW, hBW⟩
          · have HR4 := Lib.hid (hy hi hw1 rfl rfl h5)
            have HW1 := Lib.hid hw1
            have HI := Lib.hid hi
            clear hn1 hn2 hn3 hn4 hn5 hy hw1 hi
            go_enter Tryz.func40, Tryz.ntmps40
            go_wp2_with fail
            obtain ⟨w1, he_w1⟩ : ∃ x, x = ((w.alloc (.cells #[.int .i64 d1, .int .i64 f1, .slice A1 ss1.length c1, .int .i64 d2, .int .i64 f2, .slice A2 ss2.length c2, .slice A3 st.length c3, .slice A4 P.length c4, .slice A5 pp.length c5, .int .i64 m] 41)).alloc (.cells #[.int .i64 0, .int .i64 0, .slice none 0 0, .int .i64 0, .int .i64 0, .slice none 0 0, .slice none 0 0, .slice none 0 0, .slice none 0 0, .int .i64 0] 41)) := ⟨_, rfl⟩
            have hk_a_w1 : w1.heap[w.heap.size]? = some (.cells #[.int .i64 d1, .int .i64 f1, .slice A1 ss1.length c1, .int .i64 d2, .int .i64 f2, .slice A2 ss2.length c2, .slice A3 st.length c3, .slice A4 P.length c4, .slice A5 pp.length c5, .int .i64 m] 41 (0, 0)) := by rw [he_w1]; exact (blk_alloc (blk_new_at w (.cells #[.int .i64 d1, .int .i64 f1, .slice A1 ss1.length c1, .int .i64 d2, .int .i64 f2, .slice A2 ss2.length c2, .slice A3 st.length c3, .slice A4 P.length c4, .slice A5 pp.length c5, .int .i64 m] 41) (k := w.heap.size) (by simp [World.setCell])) _)
            have hk_r_w1 : w1.heap[w.heap.size + 1]? = some (.cells #[.int .i64 0, .int .i64 0, .slice none 0 0, .int .i64 0, .int .i64 0, .slice none 0 0, .slice none 0 0, .slice none 0 0, .slice none 0 0, .int .i64 0] 41 (0, 0)) := by rw [he_w1]; exact (blk_new_at (w.alloc (.cells #[.int .i64 d1, .int .i64 f1, .slice A1 ss1.length c1, .int .i64 d2, .int .i64 f2, .slice A2 ss2.length c2, .slice A3 st.length c3, .slice A4 P.length c4, .slice A5 pp.length c5, .int .i64 m] 41)) (.cells #[.int .i64 0, .int .i64 0, .slice none 0 0, .int .i64 0, .int .i64 0, .slice none 0 0, .slice none 0 0, .slice none 0 0, .slice none 0 0, .int .i64 0] 41) (k := w.heap.size + 1) (by simp [World.setCell]))
            have hbw_w1 : Below w.heap.size w w1 := by rw [he_w1]; exact bel
            have hsw_w1 := hbw_w1.size
            have hch_w1 : w.heap.size ≤ w1.heap.size := by rw [he_w1]; simp [World.setCell]; try omega
            rw [← he_w1]
            clear he_w1
            refine (s_l38Copy d1 f1 ss1 d2 f2 ss2 st P pp m B A1 A2 A3 A4 A5 c1 c2 c3 c4 c5 w1 (hS.below (hbw_w1.mono hB)) (Nat.le_trans hB hsw_w1)).mono ?_
            rintro e w2 ⟨B1, e1, B2q, e2, B3, e3, B4, e4, B5, e5, rfl, hon, hb_w2⟩
            obtain ⟨l1, h1_, l2, h2_, l3, h3_, L4, hr, ha, hx, hp4, hy, hz⟩ := hon.all
            have HP4 := Lib.hid hp4
            have HR := hide hr
            have HA := hide ha
            clear hon hr ha hp4
            have hk_a_w2 := blk_next hk_a_w1 hb_w2
            have hk_r_w2 := blk_next hk_r_w1 hb_w2
            have hbw_w2 : Below w.heap.size w w2 := hbw_w1.trans (hb_w2.mono hsw_w1)
            have hsw_w2 := hbw_w2.size
            have hch_w2 : w1.heap.size ≤ w2.heap.size := hb_w2.size
            clear hk_a_w1 hk_r_w1 hbw_w1 hsw_w1 hb_w2
            have ho_x_w2 := hx
            clear hx
            have ho_y_w2 := hy
            clear hy
            have ho_z_w2 := hz
            clear hz
            obtain ⟨x0_a, x1_a, x2_a, x3_a, x4_a, x5_a, x6_a, x7_a, x8_a, x9_a, xl_a⟩ := blk10 hk_a_w2
            go_wp2_with fail
            clear x0_a x1_a x2_a x3_a x4_a x5_a x6_a x7_a x8_a x9_a xl_a
            have hl_a := blk_lt hk_a_w2
            have hl_r := blk_lt hk_r_w2
            have hlt_a_w3 := blk_lt hk_a_w2
            have hlt_r_w3 := blk_lt hk_r_w2
            obtain ⟨w3, he_w3⟩ : ∃ x, x = (w2.alloc (.cells #[.int .i64 d1, .int .i64 f1, .slice B1 ss1.length e1, .int .i64 d2, .int .i64 f2, .slice B2q ss2.length e2, .slice B3 st.length e3, .slice B4 P.length e4, .slice B5 pp.length e5, .int .i64 m] 41)) := ⟨_, rfl⟩
            have hk_a_w3 : w3.heap[w.heap.size]? = some (.cells #[.int .i64 d1, .int .i64 f1, .slice A1 ss1.length c1, .int .i64 d2, .int .i64 f2, .slice A2 ss2.length c2, .slice A3 st.length c3, .slice A4 P.length c4, .slice A5 pp.length c5, .int .i64 m] 41 (0, 0)) := by rw [he_w3]; exact (blk_alloc hk_a_w2 _)
            have hk_r_w3 : w3.heap[w.heap.size + 1]? = some (.cells #[.int .i64 0, .int .i64 0, .slice none 0 0, .int .i64 0, .int .i64 0, .slice none 0 0, .slice none 0 0, .slice none 0 0, .slice none 0 0, .int .i64 0] 41 (0, 0)) := by rw [he_w3]; exact (blk_alloc hk_r_w2 _)
            have hk_o_w3 : w3.heap[w2.heap.size]? = some (.cells #[.int .i64 d1, .int .i64 f1, .slice B1 ss1.length e1, .int .i64 d2, .int .i64 f2, .slice B2q ss2.length e2, .slice B3 st.length e3, .slice B4 P.length e4, .slice B5 pp.length e5, .int .i64 m] 41 (0, 0)) := by rw [he_w3]; exact (blk_new_at w2 (.cells #[.int .i64 d1, .int .i64 f1, .slice B1 ss1.length e1, .int .i64 d2, .int .i64 f2, .slice B2q ss2.length e2, .slice B3 st.length e3, .slice B4 P.length e4, .slice B5 pp.length e5, .int .i64 m] 41) (k := w2.heap.size) (by simp [World.setCell]))
            have hBX : Boxy w2 w3 := by rw [he_w3]; exact boxy
            have ho_x_w3 := ho_x_w2.boxy hBX
            have ho_y_w3 := ho_y_w2.boxy hBX
            have ho_z_w3 := ho_z_w2.boxy hBX
            have hbw_w3 : Below w.heap.size w w3 := by rw [he_w3]; exact bel
            have hsw_w3 := hbw_w3.size
            have hch_w3 : w2.heap.size ≤ w3.heap.size := by rw [he_w3]; simp [World.setCell]; try omega
            rw [← he_w3]
            clear hk_a_w2 hk_r_w2 ho_x_w2 ho_y_w2 ho_z_w2 hl_a hl_r hBX hbw_w2 hsw_w2 he_w3
            refine (s_WorkshopOk d1 f1 ss1 d2 f2 ss2 st P pp m B A1 A2 A3 A4 A5 c1 c2 c3 c4 c5 w3 (hS.below (hbw_w3.mono hB)) (Nat.le_trans hB hsw_w3)).mono ?_
            rw [HW1.out]
            rintro e w4 ⟨rfl, hb_w4⟩
            have hk_a_w4 := blk_next hk_a_w3 hb_w4
            have hk_r_w4 := blk_next hk_r_w3 hb_w4
            have hk_o_w4 := blk_next hk_o_w3 hb_w4
            have ho_x_w4 := ho_x_w3.below hb_w4
            have ho_y_w4 := ho_y_w3.below hb_w4
            have ho_z_w4 := ho_z_w3.below hb_w4
            have hbw_w4 : Below w.heap.size w w4 := hbw_w3.trans (hb_w4.mono hsw_w3)
            have hsw_w4 := hbw_w4.size
            have hch_w4 : w3.heap.size ≤ w4.heap.size := hb_w4.size
            clear hk_a_w3 hk_r_w3 hk_o_w3 ho_x_w3 ho_y_w3 ho_z_w3 hbw_w3 hsw_w3 hb_w4
            obtain ⟨x0_a, x1_a, x2_a, x3_a, x4_a, x5_a, x6_a, x7_a, x8_a, x9_a, xl_a⟩ := blk10 hk_a_w4
            go_wp2_with (go_at_call 65; refine (s_l01In _ _ _ _).mono ?_; rintro e w' ⟨rfl, rfl⟩; rw [HI.out])
            clear x0_a x1_a x2_a x3_a x4_a x5_a x6_a x7_a x8_a x9_a xl_a
            refine (unhide HCN _ hbw_w4).mono ?_
            rintro e w5 ⟨E2, g2, rfl, hon2, hb_w5⟩
            have hk_a_w5 := blk_next hk_a_w4 hb_w5
            have hk_r_w5 := blk_next hk_r_w4 hb_w5
            have hk_o_w5 := blk_next hk_o_w4 hb_w5
            have ho_x_w5 := ho_x_w4.below hb_w5
            have ho_y_w5 := ho_y_w4.below hb_w5
            have ho_z_w5 := ho_z_w4.below hb_w5
            have hbw_w5 : Below w.heap.size w w5 := hbw_w4.trans (hb_w5.mono hsw_w4)
            have hsw_w5 := hbw_w5.size
            have hch_w5 : w4.heap.size ≤ w5.heap.size := hb_w5.size
            clear hk_a_w4 hk_r_w4 hk_o_w4 ho_x_w4 ho_y_w4 ho_z_w4 hbw_w4 hsw_w4 hb_w5
            have ho_nm_w5 := hon2
            clear hon2
            clear ho_nm_w5
            obtain ⟨x0_a, x1_a, x2_a, x3_a, x4_a, x5_a, x6_a, x7_a, x8_a, x9_a, xl_a⟩ := blk10 hk_a_w5
            go_wp2_with fail
            clear x0_a x1_a x2_a x3_a x4_a x5_a x6_a x7_a x8_a x9_a xl_a
            have hl_a := blk_lt hk_a_w5
            have hl_r := blk_lt hk_r_w5
            have hl_o := blk_lt hk_o_w5
            have hlt_a_w6 := blk_lt hk_a_w5
            have hlt_r_w6 := blk_lt hk_r_w5
            have hlt_o_w6 := blk_lt hk_o_w5
            obtain ⟨w6, he_w6⟩ : ∃ x, x = (w5.alloc (.cells #[.int .i64 dn, .int .i64 fn, .slice E2 ssn.length g2] 34)) := ⟨_, rfl⟩
            have hk_a_w6 : w6.heap[w.heap.size]? = some (.cells #[.int .i64 d1, .int .i64 f1, .slice A1 ss1.length c1, .int .i64 d2, .int .i64 f2, .slice A2 ss2.length c2, .slice A3 st.length c3, .slice A4 P.length c4, .slice A5 pp.length c5, .int .i64 m] 41 (0, 0)) := by rw [he_w6]; exact (blk_alloc hk_a_w5 _)
            have hk_r_w6 : w6.heap[w.heap.size + 1]? = some (.cells #[.int .i64 0, .int .i64 0, .slice none 0 0, .int .i64 0, .int .i64 0, .slice none 0 0, .slice none 0 0, .slice none 0 0, .slice none 0 0, .int .i64 0] 41 (0, 0)) := by rw [he_w6]; exact (blk_alloc hk_r_w5 _)
            have hk_o_w6 : w6.heap[w2.heap.size]? = some (.cells #[.int .i64 d1, .int .i64 f1, .slice B1 ss1.length e1, .int .i64 d2, .int .i64 f2, .slice B2q ss2.length e2, .slice B3 st.length e3, .slice B4 P.length e4, .slice B5 pp.length e5, .int .i64 m] 41 (0, 0)) := by rw [he_w6]; exact (blk_alloc hk_o_w5 _)
            have hk_cd_w6 : w6.heap[w5.heap.size]? = some (.cells #[.int .i64 dn, .int .i64 fn, .slice E2 ssn.length g2] 34 (0, 0)) := by rw [he_w6]; exact (blk_new_at w5 (.cells #[.int .i64 dn, .int .i64 fn, .slice E2 ssn.length g2] 34) (k := w5.heap.size) (by simp [World.setCell]))
            have hBX : Boxy w5 w6 := by rw [he_w6]; exact boxy
            have ho_x_w6 := ho_x_w5.boxy hBX
            have ho_y_w6 := ho_y_w5.boxy hBX
            have ho_z_w6 := ho_z_w5.boxy hBX
            have hbw_w6 : Below w.heap.size w w6 := by rw [he_w6]; exact bel
            have hsw_w6 := hbw_w6.size
            have hch_w6 : w5.heap.size ≤ w6.heap.size := by rw [he_w6]; simp [World.setCell]; try omega
            rw [← he_w6]
            clear hk_a_w5 hk_r_w5 hk_o_w5 ho_x_w5 ho_y_w5 ho_z_w5 hl_a hl_r hl_o hBX hbw_w5 hsw_w5 he_w6
            refine (unhide HUS _ hbw_w6).mono ?_
            rintro e w7 ⟨E5, g5, rfl, hon5, hb_w7⟩
            have hk_a_w7 := blk_next hk_a_w6 hb_w7
            have hk_r_w7 := blk_next hk_r_w6 hb_w7
            have hk_o_w7 := blk_next hk_o_w6 hb_w7
            have hk_cd_w7 := blk_next hk_cd_w6 hb_w7
            have ho_x_w7 := ho_x_w6.below hb_w7
            have ho_y_w7 := ho_y_w6.below hb_w7
            have ho_z_w7 := ho_z_w6.below hb_w7
            have hbw_w7 : Below w.heap.size w w7 := hbw_w6.trans (hb_w7.mono hsw_w6)
            have hsw_w7 := hbw_w7.size
            have hch_w7 : w6.heap.size ≤ w7.heap.size := hb_w7.size
            clear hk_a_w6 hk_r_w6 hk_o_w6 hk_cd_w6 ho_x_w6 ho_y_w6 ho_z_w6 hbw_w6 hsw_w6 hb_w7
            have ho_q_w7 := hon5
            clear hon5
            clear ho_z_w7
            obtain ⟨x0_a, x1_a, x2_a, x3_a, x4_a, x5_a, x6_a, x7_a, x8_a, x9_a, xl_a⟩ := blk10 hk_a_w7
            obtain ⟨x0_o, x1_o, x2_o, x3_o, x4_o, x5_o, x6_o, x7_o, x8_o, x9_o, xl_o⟩ := blk10 hk_o_w7
            obtain ⟨x0_r, x1_r, x2_r, x3_r, x4_r, x5_r, x6_r, x7_r, x8_r, x9_r, xl_r⟩ := blk10 hk_r_w7
            have f0_o := (blk_cells hk_o_w7 0).2
            have f1_o := (blk_cells hk_o_w7 1).2
            have f2_o := (blk_cells hk_o_w7 2).2
            have f3_o := (blk_cells hk_o_w7 3).2
            have f4_o := (blk_cells hk_o_w7 4).2
            have f5_o := (blk_cells hk_o_w7 5).2
            have f6_o := (blk_cells hk_o_w7 6).2
            have f7_o := (blk_cells hk_o_w7 7).2
            have f8_o := (blk_cells hk_o_w7 8).2
            have f9_o := (blk_cells hk_o_w7 9).2
            have f0_r := (blk_cells hk_r_w7 0).2
            have f1_r := (blk_cells hk_r_w7 1).2
            have f2_r := (blk_cells hk_r_w7 2).2
            have f3_r := (blk_cells hk_r_w7 3).2
            have f4_r := (blk_cells hk_r_w7 4).2
            have f5_r := (blk_cells hk_r_w7 5).2
            have f6_r := (blk_cells hk_r_w7 6).2
            have f7_r := (blk_cells hk_r_w7 7).2
            have f8_r := (blk_cells hk_r_w7 8).2
            have f9_r := (blk_cells hk_r_w7 9).2
            go_wp2
            have hbx_o := boxAt_of hk_o_w7
            have hbx_r := boxAt_of hk_r_w7
            refine bodyPost_ret (v := .tuple #[.agg #[.int .i64 d1, .int .i64 f1, .slice B1 ss1.length e1, .int .i64 d2, .int .i64 f2, .slice B2q ss2.length e2, .slice B3 st.length e3, .slice B4 P.length e4, .slice E5 ppq.length g5, .int .i64 (m + 5 * n)], .bool true]) (by simp [results, Tryz.results40, go_sem, *]) rfl ?_
            clear x0_a x1_a x2_a x3_a x4_a x5_a x6_a x7_a x8_a x9_a xl_a x0_o x1_o x2_o x3_o x4_o x5_o x6_o x7_o x8_o x9_o xl_o x0_r x1_r x2_r x3_r x4_r x5_r x6_r x7_r x8_r x9_r xl_r f0_o f1_o f2_o f3_o f4_o f5_o f6_o f7_o f8_o f9_o f0_r f1_r f2_r f3_r f4_r f5_r f6_r f7_r f8_r f9_r
            obtain ⟨wE, heE⟩ : ∃ x, x = ((((((((((((w7.setCell ⟨w2.heap.size, 8, none⟩ (.slice E5 ppq.length g5)).setCell ⟨w2.heap.size, 9, none⟩ (.int .i64 (m + 5 * n))).setCell ⟨w.heap.size + 1, 0, none⟩ (.int .i64 d1)).setCell ⟨w.heap.size + 1, 1, none⟩ (.int .i64 f1)).setCell ⟨w.heap.size + 1, 2, none⟩ (.slice B1 ss1.length e1)).setCell ⟨w.heap.size + 1, 3, none⟩ (.int .i64 d2)).setCell ⟨w.heap.size + 1, 4, none⟩ (.int .i64 f2)).setCell ⟨w.heap.size + 1, 5, none⟩ (.slice B2q ss2.length e2)).setCell ⟨w.heap.size + 1, 6, none⟩ (.slice B3 st.length e3)).setCell ⟨w.heap.size + 1, 7, none⟩ (.slice B4 P.length e4)).setCell ⟨w.heap.size + 1, 8, none⟩ (.slice E5 ppq.length g5)).setCell ⟨w.heap.size + 1, 9, none⟩ (.int .i64 (m + 5 * n))) := ⟨_, rfl⟩
            have hBX : Boxy w7 wE := by rw [heE]; exact boxy
            have hBW : Below w.heap.size w wE := by rw [heE]; exact bel
            have hsE : wE.heap.size = w7.heap.size := by rw [heE]; simp [World.setCell]
            rw [← heE]
            clear heE
            have hr1 := unhide HR
            have ha1 := unhide HA
            have hOW : OwnW wE w.heap.size wE.heap.size B1 e1 B2q e2 B3 e3 B4 e4 E5 g5 (PDraft.mk d1 f1 ss1 d2 f2 ss2 st) P ppq := OwnW.mk3 (ho_x_w7.boxy hBX) HP4.out (ho_y_w7.boxy hBX) (ho_q_w7.boxy hBX) (by omega) (by omega)
            exact uwb_cast HR4.out ⟨B1, e1, B2q, e2, B3, e3, B4, e4, E5, g5, rfl, hOW, hBW⟩
end Go.Proofs.YtdddglihomchfaaGreat
namespace Go.Proofs.YtdddglihomchfaaGreat
open Go.ChangeShapes Go.WideShapes Go.ChangeAt Go.RowKit
set_option linter.unusedVariables false
set_option linter.unusedSimpArgs false
set_option maxRecDepth 10000
set_option maxHeartbeats 1600000 in
theorem i_MakeCopies (d1 f1 : Int) (ss1 : List ByteArray) (d2 f2 : Int) (ss2 : List ByteArray) (st : List PStep) (P : List PItem) (pp : List PPaper) (m : Int) (nm : ByteArray) (k n : Int) (B : Nat) (A1 A2 A3 A4 A5 : Option Addr) (c1 c2 c3 c4 c5 : Nat) (w : World) (hS : RdWork w B A1 A2 A3 A4 c4 A5 ⟨d1, f1, ss1, d2, f2, ss2, st⟩ P pp) (hB : B ≤ w.heap.size) (hok : OkWork (PDraft.mk d1 f1 ss1 d2 f2 ss2 st) P pp 1048576) :
    Calls Tryz.prog 41 #[.agg #[.int .i64 d1, .int .i64 f1, .slice A1 ss1.length c1, .int .i64 d2, .int .i64 f2, .slice A2 ss2.length c2, .slice A3 st.length c3, .slice A4 P.length c4, .slice A5 pp.length c5, .int .i64 m], .string nm, .int .i64 k, .int .i64 n] w (UWorkB (makeRes (PWork.mk (PDraft.mk d1 f1 ss1 d2 f2 ss2 st) P pp m) nm k n).1.D.d1 (makeRes (PWork.mk (PDraft.mk d1 f1 ss1 d2 f2 ss2 st) P pp m) nm k n).1.D.f1 (makeRes (PWork.mk (PDraft.mk d1 f1 ss1 d2 f2 ss2 st) P pp m) nm k n).1.D.ss1 (makeRes (PWork.mk (PDraft.mk d1 f1 ss1 d2 f2 ss2 st) P pp m) nm k n).1.D.d2 (makeRes (PWork.mk (PDraft.mk d1 f1 ss1 d2 f2 ss2 st) P pp m) nm k n).1.D.f2 (makeRes (PWork.mk (PDraft.mk d1 f1 ss1 d2 f2 ss2 st) P pp m) nm k n).1.D.ss2 (makeRes (PWork.mk (PDraft.mk d1 f1 ss1 d2 f2 ss2 st) P pp m) nm k n).1.D.st (makeRes (PWork.mk (PDraft.mk d1 f1 ss1 d2 f2 ss2 st) P pp m) nm k n).1.P (makeRes (PWork.mk (PDraft.mk d1 f1 ss1 d2 f2 ss2 st) P pp m) nm k n).1.pp (makeRes (PWork.mk (PDraft.mk d1 f1 ss1 d2 f2 ss2 st) P pp m) nm k n).1.m (makeRes (PWork.mk (PDraft.mk d1 f1 ss1 d2 f2 ss2 st) P pp m) nm k n).2 w) := by
  obtain ⟨L0, hpl, hL0⟩ := hS.i
  have HPL := Lib.hid hpl
  clear hpl
  have hcn := fun (W : World) (hW : Below w.heap.size w W) => i_CardNamed nm P B A4 P.length c4 L0 W HPL.out (hL0.below (hW.mono hB)) (Nat.le_trans hB hW.size)
  have hus := fun (W : World) (hW : Below w.heap.size w W) => i_UsePaper pp k n B A5 c5 W (hS.p.below (hW.mono hB)) (Nat.le_trans hB hW.size)
  have hul : (useRes pp k n).1.length ≤ 1048576 := by rw [useRes_len]; exact hok.p
  have hn1 := fun h => make_n1 (W := (PWork.mk (PDraft.mk d1 f1 ss1 d2 f2 ss2 st) P pp m)) (nm := nm) (k := k) (n := n) h
  have hn2 := fun h => make_n2 (W := (PWork.mk (PDraft.mk d1 f1 ss1 d2 f2 ss2 st) P pp m)) (nm := nm) (k := k) (n := n) h
  obtain ⟨mo, hmo⟩ : ∃ mo, IntKind.i64.wrap (m + 5 * n) = mo := ⟨_, rfl⟩
  have hyes := fun hi hk h => make_yes (W := (PWork.mk (PDraft.mk d1 f1 ss1 d2 f2 ss2 st) P pp m)) (nm := nm) (k := k) (n := n) hi hk hmo h
  have hno := fun h => make_no (W := (PWork.mk (PDraft.mk d1 f1 ss1 d2 f2 ss2 st) P pp m)) (nm := nm) (k := k) (n := n) hmo h
  simp only at hn2 hyes hno
  generalize makeRes (PWork.mk (PDraft.mk d1 f1 ss1 d2 f2 ss2 st) P pp m) nm k n = R at *
  generalize named P nm = N at *
  generalize useRes pp k n = q at *
  obtain ⟨⟨dn, fn⟩, ssn, bn⟩ := N
  obtain ⟨ppq, bq⟩ := q
  simp only at hcn hus hul hn2 hyes hno
  have HCN := hide hcn
  have HUS := hide hus
  have HUL := hide hul
  have HOK := hide hok
  clear hcn hus hul hok hL0
  cases hi : inB n 1 1000
  case false =>
    have HR4 := Lib.hid (hn1 hi)
    have HI := Lib.hid hi
    clear hn1 hn2 hyes hno hi
    go_enter Tryz.func41, Tryz.ntmps41
    go_wp2_with fail
    obtain ⟨w1, he_w1⟩ : ∃ x, x = ((w.alloc (.cells #[.int .i64 d1, .int .i64 f1, .slice A1 ss1.length c1, .int .i64 d2, .int .i64 f2, .slice A2 ss2.length c2, .slice A3 st.length c3, .slice A4 P.length c4, .slice A5 pp.length c5, .int .i64 m] 41)).alloc (.cells #[.int .i64 0, .int .i64 0, .slice none 0 0, .int .i64 0, .int .i64 0, .slice none 0 0, .slice none 0 0, .slice none 0 0, .slice none 0 0, .int .i64 0] 41)) := ⟨_, rfl⟩
    have hk_a_w1 : w1.heap[w.heap.size]? = some (.cells #[.int .i64 d1, .int .i64 f1, .slice A1 ss1.length c1, .int .i64 d2, .int .i64 f2, .slice A2 ss2.length c2, .slice A3 st.length c3, .slice A4 P.length c4, .slice A5 pp.length c5, .int .i64 m] 41 (0, 0)) := by rw [he_w1]; exact (blk_alloc (blk_new_at w (.cells #[.int .i64 d1, .int .i64 f1, .slice A1 ss1.length c1, .int .i64 d2, .int .i64 f2, .slice A2 ss2.length c2, .slice A3 st.length c3, .slice A4 P.length c4, .slice A5 pp.length c5, .int .i64 m] 41) (k := w.heap.size) (by simp [World.setCell])) _)
    have hk_r_w1 : w1.heap[w.heap.size + 1]? = some (.cells #[.int .i64 0, .int .i64 0, .slice none 0 0, .int .i64 0, .int .i64 0, .slice none 0 0, .slice none 0 0, .slice none 0 0, .slice none 0 0, .int .i64 0] 41 (0, 0)) := by rw [he_w1]; exact (blk_new_at (w.alloc (.cells #[.int .i64 d1, .int .i64 f1, .slice A1 ss1.length c1, .int .i64 d2, .int .i64 f2, .slice A2 ss2.length c2, .slice A3 st.length c3, .slice A4 P.length c4, .slice A5 pp.length c5, .int .i64 m] 41)) (.cells #[.int .i64 0, .int .i64 0, .slice none 0 0, .int .i64 0, .int .i64 0, .slice none 0 0, .slice none 0 0, .slice none 0 0, .slice none 0 0, .int .i64 0] 41) (k := w.heap.size + 1) (by simp [World.setCell]))
    have hbw_w1 : Below w.heap.size w w1 := by rw [he_w1]; exact bel
    have hsw_w1 := hbw_w1.size
    have hch_w1 : w.heap.size ≤ w1.heap.size := by rw [he_w1]; simp [World.setCell]; try omega
    rw [← he_w1]
    clear he_w1
    refine (unhide HCN _ hbw_w1).mono ?_
    rintro e w2 ⟨E2, g2, rfl, hon2, hb_w2⟩
    have hk_a_w2 := blk_next hk_a_w1 hb_w2
    have hk_r_w2 := blk_next hk_r_w1 hb_w2
    have hbw_w2 : Below w.heap.size w w2 := hbw_w1.trans (hb_w2.mono hsw_w1)
    have hsw_w2 := hbw_w2.size
    have hch_w2 : w1.heap.size ≤ w2.heap.size := hb_w2.size
    clear hk_a_w1 hk_r_w1 hbw_w1 hsw_w1 hb_w2
    have ho_nm_w2 := hon2
    clear hon2
    clear ho_nm_w2
    obtain ⟨x0_a, x1_a, x2_a, x3_a, x4_a, x5_a, x6_a, x7_a, x8_a, x9_a, xl_a⟩ := blk10 hk_a_w2
    go_wp2_with (go_at_call 72; refine (i_within _ _ _ _).mono ?_; rintro e w' ⟨rfl, rfl⟩; rw [HI.out])
    clear x0_a x1_a x2_a x3_a x4_a x5_a x6_a x7_a x8_a x9_a xl_a
    have hl_a := blk_lt hk_a_w2
    have hl_r := blk_lt hk_r_w2
    have hlt_a_w3 := blk_lt hk_a_w2
    have hlt_r_w3 := blk_lt hk_r_w2
    obtain ⟨w3, he_w3⟩ : ∃ x, x = (w2.alloc (.cells #[.int .i64 dn, .int .i64 fn, .slice E2 ssn.length g2] 34)) := ⟨_, rfl⟩
    have hk_a_w3 : w3.heap[w.heap.size]? = some (.cells #[.int .i64 d1, .int .i64 f1, .slice A1 ss1.length c1, .int .i64 d2, .int .i64 f2, .slice A2 ss2.length c2, .slice A3 st.length c3, .slice A4 P.length c4, .slice A5 pp.length c5, .int .i64 m] 41 (0, 0)) := by rw [he_w3]; exact (blk_alloc hk_a_w2 _)
    have hk_r_w3 : w3.heap[w.heap.size + 1]? = some (.cells #[.int .i64 0, .int .i64 0, .slice none 0 0, .int .i64 0, .int .i64 0, .slice none 0 0, .slice none 0 0, .slice none 0 0, .slice none 0 0, .int .i64 0] 41 (0, 0)) := by rw [he_w3]; exact (blk_alloc hk_r_w2 _)
    have hk_cd_w3 : w3.heap[w2.heap.size]? = some (.cells #[.int .i64 dn, .int .i64 fn, .slice E2 ssn.length g2] 34 (0, 0)) := by rw [he_w3]; exact (blk_new_at w2 (.cells #[.int .i64 dn, .int .i64 fn, .slice E2 ssn.length g2] 34) (k := w2.heap.size) (by simp [World.setCell]))
    have hbw_w3 : Below w.heap.size w w3 := by rw [he_w3]; exact bel
    have hsw_w3 := hbw_w3.size
    have hch_w3 : w2.heap.size ≤ w3.heap.size := by rw [he_w3]; simp [World.setCell]; try omega
    rw [← he_w3]
    clear hk_a_w2 hk_r_w2 hl_a hl_r hbw_w2 hsw_w2 he_w3
    refine (i_workCopied d1 f1 ss1 d2 f2 ss2 st P pp m B A1 A2 A3 A4 A5 c1 c2 c3 c4 c5 w3 (hS.below (hbw_w3.mono hB)) (Nat.le_trans hB hsw_w3)).mono ?_
    rintro e w4 ⟨B1, e1, B2q, e2, B3, e3, B4, e4, B5, e5, rfl, hon, hb_w4⟩
    have hk_a_w4 := blk_next hk_a_w3 hb_w4
    have hk_r_w4 := blk_next hk_r_w3 hb_w4
    have hk_cd_w4 := blk_next hk_cd_w3 hb_w4
    have hbw_w4 : Below w.heap.size w w4 := hbw_w3.trans (hb_w4.mono hsw_w3)
    have hsw_w4 := hbw_w4.size
    have hch_w4 : w3.heap.size ≤ w4.heap.size := hb_w4.size
    clear hk_a_w3 hk_r_w3 hk_cd_w3 hbw_w3 hsw_w3 hb_w4
    have ho_c_w4 := hon
    clear hon
    obtain ⟨x0_r, x1_r, x2_r, x3_r, x4_r, x5_r, x6_r, x7_r, x8_r, x9_r, xl_r⟩ := blk10 hk_r_w4
    have f0_r := (blk_cells hk_r_w4 0).2
    have f1_r := (blk_cells hk_r_w4 1).2
    have f2_r := (blk_cells hk_r_w4 2).2
    have f3_r := (blk_cells hk_r_w4 3).2
    have f4_r := (blk_cells hk_r_w4 4).2
    have f5_r := (blk_cells hk_r_w4 5).2
    have f6_r := (blk_cells hk_r_w4 6).2
    have f7_r := (blk_cells hk_r_w4 7).2
    have f8_r := (blk_cells hk_r_w4 8).2
    have f9_r := (blk_cells hk_r_w4 9).2
    go_wp2
    have hbx_r := boxAt_of hk_r_w4
    refine bodyPost_ret (v := .tuple #[.agg #[.int .i64 d1, .int .i64 f1, .slice B1 ss1.length e1, .int .i64 d2, .int .i64 f2, .slice B2q ss2.length e2, .slice B3 st.length e3, .slice B4 P.length e4, .slice B5 pp.length e5, .int .i64 m], .bool false]) (by simp [results, Tryz.results41, go_sem, *]) rfl ?_
    clear x0_r x1_r x2_r x3_r x4_r x5_r x6_r x7_r x8_r x9_r xl_r f0_r f1_r f2_r f3_r f4_r f5_r f6_r f7_r f8_r f9_r
    obtain ⟨wE, heE⟩ : ∃ x, x = ((((((((((w4.setCell ⟨w.heap.size + 1, 0, none⟩ (.int .i64 d1)).setCell ⟨w.heap.size + 1, 1, none⟩ (.int .i64 f1)).setCell ⟨w.heap.size + 1, 2, none⟩ (.slice B1 ss1.length e1)).setCell ⟨w.heap.size + 1, 3, none⟩ (.int .i64 d2)).setCell ⟨w.heap.size + 1, 4, none⟩ (.int .i64 f2)).setCell ⟨w.heap.size + 1, 5, none⟩ (.slice B2q ss2.length e2)).setCell ⟨w.heap.size + 1, 6, none⟩ (.slice B3 st.length e3)).setCell ⟨w.heap.size + 1, 7, none⟩ (.slice B4 P.length e4)).setCell ⟨w.heap.size + 1, 8, none⟩ (.slice B5 pp.length e5)).setCell ⟨w.heap.size + 1, 9, none⟩ (.int .i64 m)) := ⟨_, rfl⟩
    have hBX : Boxy w4 wE := by rw [heE]; exact boxy
    have hBW : Below w.heap.size w wE := by rw [heE]; exact bel
    have hsE : wE.heap.size = w4.heap.size := by rw [heE]; simp [World.setCell]
    rw [← heE]
    clear heE
    have hOW : OwnW wE w.heap.size wE.heap.size B1 e1 B2q e2 B3 e3 B4 e4 B5 e5 (PDraft.mk d1 f1 ss1 d2 f2 ss2 st) P pp := (ho_c_w4.boxy hBX).wide (by omega) (by omega)
    exact uwb_cast HR4.out ⟨B1, e1, B2q, e2, B3, e3, B4, e4, B5, e5, rfl, hOW, hBW⟩
  case true =>
    have hnb := inB_iff'.1 hi
    have hw5 : IntKind.i64.wrap (5 * n) = 5 * n := by rw [IntKind.wrap_i64]; omega
    clear hnb
    cases bn
    case false =>
      have HR4 := Lib.hid (hn2 rfl)
      have HI := Lib.hid hi
      clear hn1 hn2 hyes hno hi
      go_enter Tryz.func41, Tryz.ntmps41
      go_wp2_with fail
      obtain ⟨w1, he_w1⟩ : ∃ x, x = ((w.alloc (.cells #[.int .i64 d1, .int .i64 f1, .slice A1 ss1.length c1, .int .i64 d2, .int .i64 f2, .slice A2 ss2.length c2, .slice A3 st.length c3, .slice A4 P.length c4, .slice A5 pp.length c5, .int .i64 m] 41)).alloc (.cells #[.int .i64 0, .int .i64 0, .slice none 0 0, .int .i64 0, .int .i64 0, .slice none 0 0, .slice none 0 0, .slice none 0 0, .slice none 0 0, .int .i64 0] 41)) := ⟨_, rfl⟩
      have hk_a_w1 : w1.heap[w.heap.size]? = some (.cells #[.int .i64 d1, .int .i64 f1, .slice A1 ss1.length c1, .int .i64 d2, .int .i64 f2, .slice A2 ss2.length c2, .slice A3 st.length c3, .slice A4 P.length c4, .slice A5 pp.length c5, .int .i64 m] 41 (0, 0)) := by rw [he_w1]; exact (blk_alloc (blk_new_at w (.cells #[.int .i64 d1, .int .i64 f1, .slice A1 ss1.length c1, .int .i64 d2, .int .i64 f2, .slice A2 ss2.length c2, .slice A3 st.length c3, .slice A4 P.length c4, .slice A5 pp.length c5, .int .i64 m] 41) (k := w.heap.size) (by simp [World.setCell])) _)
      have hk_r_w1 : w1.heap[w.heap.size + 1]? = some (.cells #[.int .i64 0, .int .i64 0, .slice none 0 0, .int .i64 0, .int .i64 0, .slice none 0 0, .slice none 0 0, .slice none 0 0, .slice none 0 0, .int .i64 0] 41 (0, 0)) := by rw [he_w1]; exact (blk_new_at (w.alloc (.cells #[.int .i64 d1, .int .i64 f1, .slice A1 ss1.length c1, .int .i64 d2, .int .i64 f2, .slice A2 ss2.length c2, .slice A3 st.length c3, .slice A4 P.length c4, .slice A5 pp.length c5, .int .i64 m] 41)) (.cells #[.int .i64 0, .int .i64 0, .slice none 0 0, .int .i64 0, .int .i64 0, .slice none 0 0, .slice none 0 0, .slice none 0 0, .slice none 0 0, .int .i64 0] 41) (k := w.heap.size + 1) (by simp [World.setCell]))
      have hbw_w1 : Below w.heap.size w w1 := by rw [he_w1]; exact bel
      have hsw_w1 := hbw_w1.size
      have hch_w1 : w.heap.size ≤ w1.heap.size := by rw [he_w1]; simp [World.setCell]; try omega
      rw [← he_w1]
      clear he_w1
      refine (unhide HCN _ hbw_w1).mono ?_
      rintro e w2 ⟨E2, g2, rfl, hon2, hb_w2⟩
      have hk_a_w2 := blk_next hk_a_w1 hb_w2
      have hk_r_w2 := blk_next hk_r_w1 hb_w2
      have hbw_w2 : Below w.heap.size w w2 := hbw_w1.trans (hb_w2.mono hsw_w1)
      have hsw_w2 := hbw_w2.size
      have hch_w2 : w1.heap.size ≤ w2.heap.size := hb_w2.size
      clear hk_a_w1 hk_r_w1 hbw_w1 hsw_w1 hb_w2
      have ho_nm_w2 := hon2
      clear hon2
      clear ho_nm_w2
      obtain ⟨x0_a, x1_a, x2_a, x3_a, x4_a, x5_a, x6_a, x7_a, x8_a, x9_a, xl_a⟩ := blk10 hk_a_w2
      go_wp2_with (go_at_call 72; refine (i_within _ _ _ _).mono ?_; rintro e w' ⟨rfl, rfl⟩; rw [HI.out])
      clear x0_a x1_a x2_a x3_a x4_a x5_a x6_a x7_a x8_a x9_a xl_a
      have hl_a := blk_lt hk_a_w2
      have hl_r := blk_lt hk_r_w2
      have hlt_a_w3 := blk_lt hk_a_w2
      have hlt_r_w3 := blk_lt hk_r_w2
      obtain ⟨w3, he_w3⟩ : ∃ x, x = (w2.alloc (.cells #[.int .i64 dn, .int .i64 fn, .slice E2 ssn.length g2] 34)) := ⟨_, rfl⟩
      have hk_a_w3 : w3.heap[w.heap.size]? = some (.cells #[.int .i64 d1, .int .i64 f1, .slice A1 ss1.length c1, .int .i64 d2, .int .i64 f2, .slice A2 ss2.length c2, .slice A3 st.length c3, .slice A4 P.length c4, .slice A5 pp.length c5, .int .i64 m] 41 (0, 0)) := by rw [he_w3]; exact (blk_alloc hk_a_w2 _)
      have hk_r_w3 : w3.heap[w.heap.size + 1]? = some (.cells #[.int .i64 0, .int .i64 0, .slice none 0 0, .int .i64 0, .int .i64 0, .slice none 0 0, .slice none 0 0, .slice none 0 0, .slice none 0 0, .int .i64 0] 41 (0, 0)) := by rw [he_w3]; exact (blk_alloc hk_r_w2 _)
      have hk_cd_w3 : w3.heap[w2.heap.size]? = some (.cells #[.int .i64 dn, .int .i64 fn, .slice E2 ssn.length g2] 34 (0, 0)) := by rw [he_w3]; exact (blk_new_at w2 (.cells #[.int .i64 dn, .int .i64 fn, .slice E2 ssn.length g2] 34) (k := w2.heap.size) (by simp [World.setCell]))
      have hbw_w3 : Below w.heap.size w w3 := by rw [he_w3]; exact bel
      have hsw_w3 := hbw_w3.size
      have hch_w3 : w2.heap.size ≤ w3.heap.size := by rw [he_w3]; simp [World.setCell]; try omega
      rw [← he_w3]
      clear hk_a_w2 hk_r_w2 hl_a hl_r hbw_w2 hsw_w2 he_w3
      refine (i_workCopied d1 f1 ss1 d2 f2 ss2 st P pp m B A1 A2 A3 A4 A5 c1 c2 c3 c4 c5 w3 (hS.below (hbw_w3.mono hB)) (Nat.le_trans hB hsw_w3)).mono ?_
      rintro e w4 ⟨B1, e1, B2q, e2, B3, e3, B4, e4, B5, e5, rfl, hon, hb_w4⟩
      have hk_a_w4 := blk_next hk_a_w3 hb_w4
      have hk_r_w4 := blk_next hk_r_w3 hb_w4
      have hk_cd_w4 := blk_next hk_cd_w3 hb_w4
      have hbw_w4 : Below w.heap.size w w4 := hbw_w3.trans (hb_w4.mono hsw_w3)
      have hsw_w4 := hbw_w4.size
      have hch_w4 : w3.heap.size ≤ w4.heap.size := hb_w4.size
      clear hk_a_w3 hk_r_w3 hk_cd_w3 hbw_w3 hsw_w3 hb_w4
      have ho_c_w4 := hon
      clear hon
      obtain ⟨x0_r, x1_r, x2_r, x3_r, x4_r, x5_r, x6_r, x7_r, x8_r, x9_r, xl_r⟩ := blk10 hk_r_w4
      have f0_r := (blk_cells hk_r_w4 0).2
      have f1_r := (blk_cells hk_r_w4 1).2
      have f2_r := (blk_cells hk_r_w4 2).2
      have f3_r := (blk_cells hk_r_w4 3).2
      have f4_r := (blk_cells hk_r_w4 4).2
      have f5_r := (blk_cells hk_r_w4 5).2
      have f6_r := (blk_cells hk_r_w4 6).2
      have f7_r := (blk_cells hk_r_w4 7).2
      have f8_r := (blk_cells hk_r_w4 8).2
      have f9_r := (blk_cells hk_r_w4 9).2
      go_wp2
      have hbx_r := boxAt_of hk_r_w4
      refine bodyPost_ret (v := .tuple #[.agg #[.int .i64 d1, .int .i64 f1, .slice B1 ss1.length e1, .int .i64 d2, .int .i64 f2, .slice B2q ss2.length e2, .slice B3 st.length e3, .slice B4 P.length e4, .slice B5 pp.length e5, .int .i64 m], .bool false]) (by simp [results, Tryz.results41, go_sem, *]) rfl ?_
      clear x0_r x1_r x2_r x3_r x4_r x5_r x6_r x7_r x8_r x9_r xl_r f0_r f1_r f2_r f3_r f4_r f5_r f6_r f7_r f8_r f9_r
      obtain ⟨wE, heE⟩ : ∃ x, x = ((((((((((w4.setCell ⟨w.heap.size + 1, 0, none⟩ (.int .i64 d1)).setCell ⟨w.heap.size + 1, 1, none⟩ (.int .i64 f1)).setCell ⟨w.heap.size + 1, 2, none⟩ (.slice B1 ss1.length e1)).setCell ⟨w.heap.size + 1, 3, none⟩ (.int .i64 d2)).setCell ⟨w.heap.size + 1, 4, none⟩ (.int .i64 f2)).setCell ⟨w.heap.size + 1, 5, none⟩ (.slice B2q ss2.length e2)).setCell ⟨w.heap.size + 1, 6, none⟩ (.slice B3 st.length e3)).setCell ⟨w.heap.size + 1, 7, none⟩ (.slice B4 P.length e4)).setCell ⟨w.heap.size + 1, 8, none⟩ (.slice B5 pp.length e5)).setCell ⟨w.heap.size + 1, 9, none⟩ (.int .i64 m)) := ⟨_, rfl⟩
      have hBX : Boxy w4 wE := by rw [heE]; exact boxy
      have hBW : Below w.heap.size w wE := by rw [heE]; exact bel
      have hsE : wE.heap.size = w4.heap.size := by rw [heE]; simp [World.setCell]
      rw [← heE]
      clear heE
      have hOW : OwnW wE w.heap.size wE.heap.size B1 e1 B2q e2 B3 e3 B4 e4 B5 e5 (PDraft.mk d1 f1 ss1 d2 f2 ss2 st) P pp := (ho_c_w4.boxy hBX).wide (by omega) (by omega)
      exact uwb_cast HR4.out ⟨B1, e1, B2q, e2, B3, e3, B4, e4, B5, e5, rfl, hOW, hBW⟩
    case true =>
      cases hc : (bq && (workOk (PWork.mk (PDraft.mk d1 f1 ss1 d2 f2 ss2 st) P pp m) && workOk (PWork.mk (PDraft.mk d1 f1 ss1 d2 f2 ss2 st) P ppq mo)))
      case false =>
        have HR4 := Lib.hid (hno hc)
        have HN := Lib.hid hc
        have HI := Lib.hid hi
        clear hn1 hn2 hyes hno hi hc
        go_enter Tryz.func41, Tryz.ntmps41
        go_wp2_with fail
        obtain ⟨w1, he_w1⟩ : ∃ x, x = ((w.alloc (.cells #[.int .i64 d1, .int .i64 f1, .slice A1 ss1.length c1, .int .i64 d2, .int .i64 f2, .slice A2 ss2.length c2, .slice A3 st.length c3, .slice A4 P.length c4, .slice A5 pp.length c5, .int .i64 m] 41)).alloc (.cells #[.int .i64 0, .int .i64 0, .slice none 0 0, .int .i64 0, .int .i64 0, .slice none 0 0, .slice none 0 0, .slice none 0 0, .slice none 0 0, .int .i64 0] 41)) := ⟨_, rfl⟩
        have hk_a_w1 : w1.heap[w.heap.size]? = some (.cells #[.int .i64 d1, .int .i64 f1, .slice A1 ss1.length c1, .int .i64 d2, .int .i64 f2, .slice A2 ss2.length c2, .slice A3 st.length c3, .slice A4 P.length c4, .slice A5 pp.length c5, .int .i64 m] 41 (0, 0)) := by rw [he_w1]; exact (blk_alloc (blk_new_at w (.cells #[.int .i64 d1, .int .i64 f1, .slice A1 ss1.length c1, .int .i64 d2, .int .i64 f2, .slice A2 ss2.length c2, .slice A3 st.length c3, .slice A4 P.length c4, .slice A5 pp.length c5, .int .i64 m] 41) (k := w.heap.size) (by simp [World.setCell])) _)
        have hk_r_w1 : w1.heap[w.heap.size + 1]? = some (.cells #[.int .i64 0, .int .i64 0, .slice none 0 0, .int .i64 0, .int .i64 0, .slice none 0 0, .slice none 0 0, .slice none 0 0, .slice none 0 0, .int .i64 0] 41 (0, 0)) := by rw [he_w1]; exact (blk_new_at (w.alloc (.cells #[.int .i64 d1, .int .i64 f1, .slice A1 ss1.length c1, .int .i64 d2, .int .i64 f2, .slice A2 ss2.length c2, .slice A3 st.length c3, .slice A4 P.length c4, .slice A5 pp.length c5, .int .i64 m] 41)) (.cells #[.int .i64 0, .int .i64 0, .slice none 0 0, .int .i64 0, .int .i64 0, .slice none 0 0, .slice none 0 0, .slice none 0 0, .slice none 0 0, .int .i64 0] 41) (k := w.heap.size + 1) (by simp [World.setCell]))
        have hbw_w1 : Below w.heap.size w w1 := by rw [he_w1]; exact bel
        have hsw_w1 := hbw_w1.size
        have hch_w1 : w.heap.size ≤ w1.heap.size := by rw [he_w1]; simp [World.setCell]; try omega
        rw [← he_w1]
        clear he_w1
        refine (unhide HCN _ hbw_w1).mono ?_
        rintro e w2 ⟨E2, g2, rfl, hon2, hb_w2⟩
        have hk_a_w2 := blk_next hk_a_w1 hb_w2
        have hk_r_w2 := blk_next hk_r_w1 hb_w2
        have hbw_w2 : Below w.heap.size w w2 := hbw_w1.trans (hb_w2.mono hsw_w1)
        have hsw_w2 := hbw_w2.size
        have hch_w2 : w1.heap.size ≤ w2.heap.size := hb_w2.size
        clear hk_a_w1 hk_r_w1 hbw_w1 hsw_w1 hb_w2
        have ho_nm_w2 := hon2
        clear hon2
        clear ho_nm_w2
        obtain ⟨x0_a, x1_a, x2_a, x3_a, x4_a, x5_a, x6_a, x7_a, x8_a, x9_a, xl_a⟩ := blk10 hk_a_w2
        go_wp2_with (go_at_call 72; refine (i_within _ _ _ _).mono ?_; rintro e w' ⟨rfl, rfl⟩; rw [HI.out])
        clear x0_a x1_a x2_a x3_a x4_a x5_a x6_a x7_a x8_a x9_a xl_a
        have hl_a := blk_lt hk_a_w2
        have hl_r := blk_lt hk_r_w2
        have hlt_a_w3 := blk_lt hk_a_w2
        have hlt_r_w3 := blk_lt hk_r_w2
        obtain ⟨w3, he_w3⟩ : ∃ x, x = (w2.alloc (.cells #[.int .i64 dn, .int .i64 fn, .slice E2 ssn.length g2] 34)) := ⟨_, rfl⟩
        have hk_a_w3 : w3.heap[w.heap.size]? = some (.cells #[.int .i64 d1, .int .i64 f1, .slice A1 ss1.length c1, .int .i64 d2, .int .i64 f2, .slice A2 ss2.length c2, .slice A3 st.length c3, .slice A4 P.length c4, .slice A5 pp.length c5, .int .i64 m] 41 (0, 0)) := by rw [he_w3]; exact (blk_alloc hk_a_w2 _)
        have hk_r_w3 : w3.heap[w.heap.size + 1]? = some (.cells #[.int .i64 0, .int .i64 0, .slice none 0 0, .int .i64 0, .int .i64 0, .slice none 0 0, .slice none 0 0, .slice none 0 0, .slice none 0 0, .int .i64 0] 41 (0, 0)) := by rw [he_w3]; exact (blk_alloc hk_r_w2 _)
        have hk_cd_w3 : w3.heap[w2.heap.size]? = some (.cells #[.int .i64 dn, .int .i64 fn, .slice E2 ssn.length g2] 34 (0, 0)) := by rw [he_w3]; exact (blk_new_at w2 (.cells #[.int .i64 dn, .int .i64 fn, .slice E2 ssn.length g2] 34) (k := w2.heap.size) (by simp [World.setCell]))
        have hbw_w3 : Below w.heap.size w w3 := by rw [he_w3]; exact bel
        have hsw_w3 := hbw_w3.size
        have hch_w3 : w2.heap.size ≤ w3.heap.size := by rw [he_w3]; simp [World.setCell]; try omega
        rw [← he_w3]
        clear hk_a_w2 hk_r_w2 hl_a hl_r hbw_w2 hsw_w2 he_w3
        refine (i_workCopied d1 f1 ss1 d2 f2 ss2 st P pp m B A1 A2 A3 A4 A5 c1 c2 c3 c4 c5 w3 (hS.below (hbw_w3.mono hB)) (Nat.le_trans hB hsw_w3)).mono ?_
        rintro e w4 ⟨B1, e1, B2q, e2, B3, e3, B4, e4, B5, e5, rfl, hon, hb_w4⟩
        obtain ⟨l1, h1_, l2, h2_, l3, h3_, L4, hr, ha, hx, hp4, hy, hz⟩ := hon.all
        have HP4 := Lib.hid hp4
        have HR := hide hr
        have HA := hide ha
        clear hon hr ha hp4
        have hk_a_w4 := blk_next hk_a_w3 hb_w4
        have hk_r_w4 := blk_next hk_r_w3 hb_w4
        have hk_cd_w4 := blk_next hk_cd_w3 hb_w4
        have hbw_w4 : Below w.heap.size w w4 := hbw_w3.trans (hb_w4.mono hsw_w3)
        have hsw_w4 := hbw_w4.size
        have hch_w4 : w3.heap.size ≤ w4.heap.size := hb_w4.size
        clear hk_a_w3 hk_r_w3 hk_cd_w3 hbw_w3 hsw_w3 hb_w4
        have ho_x_w4 := hx
        clear hx
        have ho_y_w4 := hy
        clear hy
        have ho_z_w4 := hz
        clear hz
        obtain ⟨x0_a, x1_a, x2_a, x3_a, x4_a, x5_a, x6_a, x7_a, x8_a, x9_a, xl_a⟩ := blk10 hk_a_w4
        go_wp2_with fail
        clear x0_a x1_a x2_a x3_a x4_a x5_a x6_a x7_a x8_a x9_a xl_a
        have hl_a := blk_lt hk_a_w4
        have hl_r := blk_lt hk_r_w4
        have hl_cd := blk_lt hk_cd_w4
        have hlt_a_w5 := blk_lt hk_a_w4
        have hlt_r_w5 := blk_lt hk_r_w4
        have hlt_cd_w5 := blk_lt hk_cd_w4
        obtain ⟨w5, he_w5⟩ : ∃ x, x = (w4.alloc (.cells #[.int .i64 d1, .int .i64 f1, .slice B1 ss1.length e1, .int .i64 d2, .int .i64 f2, .slice B2q ss2.length e2, .slice B3 st.length e3, .slice B4 P.length e4, .slice B5 pp.length e5, .int .i64 m] 41)) := ⟨_, rfl⟩
        have hk_a_w5 : w5.heap[w.heap.size]? = some (.cells #[.int .i64 d1, .int .i64 f1, .slice A1 ss1.length c1, .int .i64 d2, .int .i64 f2, .slice A2 ss2.length c2, .slice A3 st.length c3, .slice A4 P.length c4, .slice A5 pp.length c5, .int .i64 m] 41 (0, 0)) := by rw [he_w5]; exact (blk_alloc hk_a_w4 _)
        have hk_r_w5 : w5.heap[w.heap.size + 1]? = some (.cells #[.int .i64 0, .int .i64 0, .slice none 0 0, .int .i64 0, .int .i64 0, .slice none 0 0, .slice none 0 0, .slice none 0 0, .slice none 0 0, .int .i64 0] 41 (0, 0)) := by rw [he_w5]; exact (blk_alloc hk_r_w4 _)
        have hk_cd_w5 : w5.heap[w2.heap.size]? = some (.cells #[.int .i64 dn, .int .i64 fn, .slice E2 ssn.length g2] 34 (0, 0)) := by rw [he_w5]; exact (blk_alloc hk_cd_w4 _)
        have hk_o_w5 : w5.heap[w4.heap.size]? = some (.cells #[.int .i64 d1, .int .i64 f1, .slice B1 ss1.length e1, .int .i64 d2, .int .i64 f2, .slice B2q ss2.length e2, .slice B3 st.length e3, .slice B4 P.length e4, .slice B5 pp.length e5, .int .i64 m] 41 (0, 0)) := by rw [he_w5]; exact (blk_new_at w4 (.cells #[.int .i64 d1, .int .i64 f1, .slice B1 ss1.length e1, .int .i64 d2, .int .i64 f2, .slice B2q ss2.length e2, .slice B3 st.length e3, .slice B4 P.length e4, .slice B5 pp.length e5, .int .i64 m] 41) (k := w4.heap.size) (by simp [World.setCell]))
        have hBX : Boxy w4 w5 := by rw [he_w5]; exact boxy
        have ho_x_w5 := ho_x_w4.boxy hBX
        have ho_y_w5 := ho_y_w4.boxy hBX
        have ho_z_w5 := ho_z_w4.boxy hBX
        have hbw_w5 : Below w.heap.size w w5 := by rw [he_w5]; exact bel
        have hsw_w5 := hbw_w5.size
        have hch_w5 : w4.heap.size ≤ w5.heap.size := by rw [he_w5]; simp [World.setCell]; try omega
        rw [← he_w5]
        clear hk_a_w4 hk_r_w4 hk_cd_w4 ho_x_w4 ho_y_w4 ho_z_w4 hl_a hl_r hl_cd hBX hbw_w4 hsw_w4 he_w5
        refine (unhide HUS _ hbw_w5).mono ?_
        rintro e w6 ⟨E5, g5, rfl, hon5, hb_w6⟩
        have hk_a_w6 := blk_next hk_a_w5 hb_w6
        have hk_r_w6 := blk_next hk_r_w5 hb_w6
        have hk_cd_w6 := blk_next hk_cd_w5 hb_w6
        have hk_o_w6 := blk_next hk_o_w5 hb_w6
        have ho_x_w6 := ho_x_w5.below hb_w6
        have ho_y_w6 := ho_y_w5.below hb_w6
        have ho_z_w6 := ho_z_w5.below hb_w6
        have hbw_w6 : Below w.heap.size w w6 := hbw_w5.trans (hb_w6.mono hsw_w5)
        have hsw_w6 := hbw_w6.size
        have hch_w6 : w5.heap.size ≤ w6.heap.size := hb_w6.size
        clear hk_a_w5 hk_r_w5 hk_cd_w5 hk_o_w5 ho_x_w5 ho_y_w5 ho_z_w5 hbw_w5 hsw_w5 hb_w6
        have ho_q_w6 := hon5
        clear hon5
        clear ho_z_w6
        obtain ⟨x0_a, x1_a, x2_a, x3_a, x4_a, x5_a, x6_a, x7_a, x8_a, x9_a, xl_a⟩ := blk10 hk_a_w6
        obtain ⟨x0_o, x1_o, x2_o, x3_o, x4_o, x5_o, x6_o, x7_o, x8_o, x9_o, xl_o⟩ := blk10 hk_o_w6
        have f0_o := (blk_cells hk_o_w6 0).2
        have f1_o := (blk_cells hk_o_w6 1).2
        have f2_o := (blk_cells hk_o_w6 2).2
        have f3_o := (blk_cells hk_o_w6 3).2
        have f4_o := (blk_cells hk_o_w6 4).2
        have f5_o := (blk_cells hk_o_w6 5).2
        have f6_o := (blk_cells hk_o_w6 6).2
        have f7_o := (blk_cells hk_o_w6 7).2
        have f8_o := (blk_cells hk_o_w6 8).2
        have f9_o := (blk_cells hk_o_w6 9).2
        go_wp2_with fail
        clear x0_a x1_a x2_a x3_a x4_a x5_a x6_a x7_a x8_a x9_a xl_a x0_o x1_o x2_o x3_o x4_o x5_o x6_o x7_o x8_o x9_o xl_o f0_o f1_o f2_o f3_o f4_o f5_o f6_o f7_o f8_o f9_o
        have hl_a := blk_lt hk_a_w6
        have hl_r := blk_lt hk_r_w6
        have hl_cd := blk_lt hk_cd_w6
        have hl_o := blk_lt hk_o_w6
        have hbx_o := boxAt_of hk_o_w6
        obtain ⟨w7, he_w7⟩ : ∃ x, x = ((w6.setCell ⟨w4.heap.size, 8, none⟩ (.slice E5 ppq.length g5)).setCell ⟨w4.heap.size, 9, none⟩ (.int .i64 mo)) := ⟨_, rfl⟩
        have hk_a_w7 : w7.heap[w.heap.size]? = some (.cells #[.int .i64 d1, .int .i64 f1, .slice A1 ss1.length c1, .int .i64 d2, .int .i64 f2, .slice A2 ss2.length c2, .slice A3 st.length c3, .slice A4 P.length c4, .slice A5 pp.length c5, .int .i64 m] 41 (0, 0)) := by rw [he_w7]; exact (blk_other (p := ⟨w4.heap.size, 9, none⟩) (blk_other (p := ⟨w4.heap.size, 8, none⟩) hk_a_w6 (show ¬ w.heap.size = w4.heap.size by omega) (.slice E5 ppq.length g5)) (show ¬ w.heap.size = w4.heap.size by omega) (.int .i64 mo))
        have hk_r_w7 : w7.heap[w.heap.size + 1]? = some (.cells #[.int .i64 0, .int .i64 0, .slice none 0 0, .int .i64 0, .int .i64 0, .slice none 0 0, .slice none 0 0, .slice none 0 0, .slice none 0 0, .int .i64 0] 41 (0, 0)) := by rw [he_w7]; exact (blk_other (p := ⟨w4.heap.size, 9, none⟩) (blk_other (p := ⟨w4.heap.size, 8, none⟩) hk_r_w6 (show ¬ w.heap.size + 1 = w4.heap.size by omega) (.slice E5 ppq.length g5)) (show ¬ w.heap.size + 1 = w4.heap.size by omega) (.int .i64 mo))
        have hk_cd_w7 : w7.heap[w2.heap.size]? = some (.cells #[.int .i64 dn, .int .i64 fn, .slice E2 ssn.length g2] 34 (0, 0)) := by rw [he_w7]; exact (blk_other (p := ⟨w4.heap.size, 9, none⟩) (blk_other (p := ⟨w4.heap.size, 8, none⟩) hk_cd_w6 (show ¬ w2.heap.size = w4.heap.size by omega) (.slice E5 ppq.length g5)) (show ¬ w2.heap.size = w4.heap.size by omega) (.int .i64 mo))
        have hk_o_w7 : w7.heap[w4.heap.size]? = some (.cells #[.int .i64 d1, .int .i64 f1, .slice B1 ss1.length e1, .int .i64 d2, .int .i64 f2, .slice B2q ss2.length e2, .slice B3 st.length e3, .slice B4 P.length e4, .slice E5 ppq.length g5, .int .i64 mo] 41 (0, 0)) := by rw [he_w7]; have hq9 := (blk_set (blk_set hk_o_w6 8 (.slice E5 ppq.length g5)) 9 (.int .i64 mo)); simpa using hq9
        have hBX : Boxy w6 w7 := by rw [he_w7]; exact boxy
        have ho_x_w7 := ho_x_w6.boxy hBX
        have ho_y_w7 := ho_y_w6.boxy hBX
        have ho_q_w7 := ho_q_w6.boxy hBX
        have hbw_w7 : Below w.heap.size w w7 := by rw [he_w7]; exact bel
        have hsw_w7 := hbw_w7.size
        have hch_w7 : w6.heap.size ≤ w7.heap.size := by rw [he_w7]; simp [World.setCell]; try omega
        rw [← he_w7]
        clear hk_a_w6 hk_r_w6 hk_cd_w6 hk_o_w6 ho_x_w6 ho_y_w6 ho_q_w6 hl_a hl_r hl_cd hl_o hbx_o hBX hbw_w6 hsw_w6 he_w7
        refine (i_wchanged_no d1 f1 ss1 d2 f2 ss2 st P pp m d1 f1 ss1 d2 f2 ss2 st P ppq mo A1 A2 A3 A4 A5 c1 c2 c3 c4 c5 B1 B2q B3 B4 E5 e1 e2 e3 e4 g5 bq B w7.heap.size w7 (hS.below (hbw_w7.mono hB)) (Nat.le_trans hB hsw_w7) ⟨ho_x_w7.rd ((unhide HOK).d.more (by omega)), ⟨L4, HP4.out, ho_y_w7.rdP HP4.out ((unhide HOK).i.more (by omega))⟩, ho_q_w7.rd (by have := unhide HUL; omega), own_capU ho_y_w7.row⟩ (Nat.le_refl _) HN.out).mono ?_
        rintro e w8 ⟨G1, k1, G2, k2, G3, k3, G4, k4, G5, k5, rfl, hon3, hb_w8⟩
        have hk_a_w8 := blk_next hk_a_w7 hb_w8
        have hk_r_w8 := blk_next hk_r_w7 hb_w8
        have hk_cd_w8 := blk_next hk_cd_w7 hb_w8
        have hk_o_w8 := blk_next hk_o_w7 hb_w8
        have ho_x_w8 := ho_x_w7.below hb_w8
        have ho_y_w8 := ho_y_w7.below hb_w8
        have ho_q_w8 := ho_q_w7.below hb_w8
        have hbw_w8 : Below w.heap.size w w8 := hbw_w7.trans (hb_w8.mono hsw_w7)
        have hsw_w8 := hbw_w8.size
        have hch_w8 : w7.heap.size ≤ w8.heap.size := hb_w8.size
        clear hk_a_w7 hk_r_w7 hk_cd_w7 hk_o_w7 ho_x_w7 ho_y_w7 ho_q_w7 hbw_w7 hsw_w7 hb_w8
        have ho_n_w8 := hon3
        clear hon3
        clear ho_x_w8
        clear ho_y_w8
        clear ho_q_w8
        obtain ⟨x0_r, x1_r, x2_r, x3_r, x4_r, x5_r, x6_r, x7_r, x8_r, x9_r, xl_r⟩ := blk10 hk_r_w8
        have f0_r := (blk_cells hk_r_w8 0).2
        have f1_r := (blk_cells hk_r_w8 1).2
        have f2_r := (blk_cells hk_r_w8 2).2
        have f3_r := (blk_cells hk_r_w8 3).2
        have f4_r := (blk_cells hk_r_w8 4).2
        have f5_r := (blk_cells hk_r_w8 5).2
        have f6_r := (blk_cells hk_r_w8 6).2
        have f7_r := (blk_cells hk_r_w8 7).2
        have f8_r := (blk_cells hk_r_w8 8).2
        have f9_r := (blk_cells hk_r_w8 9).2
        go_wp2
        have hbx_r := boxAt_of hk_r_w8
        refine bodyPost_ret (v := .tuple #[.agg #[.int .i64 d1, .int .i64 f1, .slice G1 ss1.length k1, .int .i64 d2, .int .i64 f2, .slice G2 ss2.length k2, .slice G3 st.length k3, .slice G4 P.length k4, .slice G5 pp.length k5, .int .i64 m], .bool false]) (by simp [results, Tryz.results41, go_sem, *]) rfl ?_
        clear x0_r x1_r x2_r x3_r x4_r x5_r x6_r x7_r x8_r x9_r xl_r f0_r f1_r f2_r f3_r f4_r f5_r f6_r f7_r f8_r f9_r
        obtain ⟨wE, heE⟩ : ∃ x, x = ((((((((((w8.setCell ⟨w.heap.size + 1, 0, none⟩ (.int .i64 d1)).setCell ⟨w.heap.size + 1, 1, none⟩ (.int .i64 f1)).setCell ⟨w.heap.size + 1, 2, none⟩ (.slice G1 ss1.length k1)).setCell ⟨w.heap.size + 1, 3, none⟩ (.int .i64 d2)).setCell ⟨w.heap.size + 1, 4, none⟩ (.int .i64 f2)).setCell ⟨w.heap.size + 1, 5, none⟩ (.slice G2 ss2.length k2)).setCell ⟨w.heap.size + 1, 6, none⟩ (.slice G3 st.length k3)).setCell ⟨w.heap.size + 1, 7, none⟩ (.slice G4 P.length k4)).setCell ⟨w.heap.size + 1, 8, none⟩ (.slice G5 pp.length k5)).setCell ⟨w.heap.size + 1, 9, none⟩ (.int .i64 m)) := ⟨_, rfl⟩
        have hBX : Boxy w8 wE := by rw [heE]; exact boxy
        have hBW : Below w.heap.size w wE := by rw [heE]; exact bel
        have hsE : wE.heap.size = w8.heap.size := by rw [heE]; simp [World.setCell]
        rw [← heE]
        clear heE
        have hOW : OwnW wE w.heap.size wE.heap.size G1 k1 G2 k2 G3 k3 G4 k4 G5 k5 (PDraft.mk d1 f1 ss1 d2 f2 ss2 st) P pp := (ho_n_w8.boxy hBX).wide (by omega) (by omega)
        exact uwb_cast HR4.out ⟨G1, k1, G2, k2, G3, k3, G4, k4, G5, k5, rfl, hOW, hBW⟩
      case true =>
        obtain ⟨rfl, hw1, hw2, hr4⟩ := hyes hi rfl hc
        have HR4 := Lib.hid hr4
        have HW1 := Lib.hid hw1
        have HW2 := Lib.hid hw2
        have HI := Lib.hid hi
        clear hn1 hn2 hyes hno hi hc hr4 hw1 hw2
        go_enter Tryz.func41, Tryz.ntmps41
        go_wp2_with fail
        obtain ⟨w1, he_w1⟩ : ∃ x, x = ((w.alloc (.cells #[.int .i64 d1, .int .i64 f1, .slice A1 ss1.length c1, .int .i64 d2, .int .i64 f2, .slice A2 ss2.length c2, .slice A3 st.length c3, .slice A4 P.length c4, .slice A5 pp.length c5, .int .i64 m] 41)).alloc (.cells #[.int .i64 0, .int .i64 0, .slice none 0 0, .int .i64 0, .int .i64 0, .slice none 0 0, .slice none 0 0, .slice none 0 0, .slice none 0 0, .int .i64 0] 41)) := ⟨_, rfl⟩
        have hk_a_w1 : w1.heap[w.heap.size]? = some (.cells #[.int .i64 d1, .int .i64 f1, .slice A1 ss1.length c1, .int .i64 d2, .int .i64 f2, .slice A2 ss2.length c2, .slice A3 st.length c3, .slice A4 P.length c4, .slice A5 pp.length c5, .int .i64 m] 41 (0, 0)) := by rw [he_w1]; exact (blk_alloc (blk_new_at w (.cells #[.int .i64 d1, .int .i64 f1, .slice A1 ss1.length c1, .int .i64 d2, .int .i64 f2, .slice A2 ss2.length c2, .slice A3 st.length c3, .slice A4 P.length c4, .slice A5 pp.length c5, .int .i64 m] 41) (k := w.heap.size) (by simp [World.setCell])) _)
        have hk_r_w1 : w1.heap[w.heap.size + 1]? = some (.cells #[.int .i64 0, .int .i64 0, .slice none 0 0, .int .i64 0, .int .i64 0, .slice none 0 0, .slice none 0 0, .slice none 0 0, .slice none 0 0, .int .i64 0] 41 (0, 0)) := by rw [he_w1]; exact (blk_new_at (w.alloc (.cells #[.int .i64 d1, .int .i64 f1, .slice A1 ss1.length c1, .int .i64 d2, .int .i64 f2, .slice A2 ss2.length c2, .slice A3 st.length c3, .slice A4 P.length c4, .slice A5 pp.length c5, .int .i64 m] 41)) (.cells #[.int .i64 0, .int .i64 0, .slice none 0 0, .int .i64 0, .int .i64 0, .slice none 0 0, .slice none 0 0, .slice none 0 0, .slice none 0 0, .int .i64 0] 41) (k := w.heap.size + 1) (by simp [World.setCell]))
        have hbw_w1 : Below w.heap.size w w1 := by rw [he_w1]; exact bel
        have hsw_w1 := hbw_w1.size
        have hch_w1 : w.heap.size ≤ w1.heap.size := by rw [he_w1]; simp [World.setCell]; try omega
        rw [← he_w1]
        clear he_w1
        refine (unhide HCN _ hbw_w1).mono ?_
        rintro e w2 ⟨E2, g2, rfl, hon2, hb_w2⟩
        have hk_a_w2 := blk_next hk_a_w1 hb_w2
        have hk_r_w2 := blk_next hk_r_w1 hb_w2
        have hbw_w2 : Below w.heap.size w w2 := hbw_w1.trans (hb_w2.mono hsw_w1)
        have hsw_w2 := hbw_w2.size
        have hch_w2 : w1.heap.size ≤ w2.heap.size := hb_w2.size
        clear hk_a_w1 hk_r_w1 hbw_w1 hsw_w1 hb_w2
        have ho_nm_w2 := hon2
        clear hon2
        clear ho_nm_w2
        obtain ⟨x0_a, x1_a, x2_a, x3_a, x4_a, x5_a, x6_a, x7_a, x8_a, x9_a, xl_a⟩ := blk10 hk_a_w2
        go_wp2_with (go_at_call 72; refine (i_within _ _ _ _).mono ?_; rintro e w' ⟨rfl, rfl⟩; rw [HI.out])
        clear x0_a x1_a x2_a x3_a x4_a x5_a x6_a x7_a x8_a x9_a xl_a
        have hl_a := blk_lt hk_a_w2
        have hl_r := blk_lt hk_r_w2
        have hlt_a_w3 := blk_lt hk_a_w2
        have hlt_r_w3 := blk_lt hk_r_w2
        obtain ⟨w3, he_w3⟩ : ∃ x, x = (w2.alloc (.cells #[.int .i64 dn, .int .i64 fn, .slice E2 ssn.length g2] 34)) := ⟨_, rfl⟩
        have hk_a_w3 : w3.heap[w.heap.size]? = some (.cells #[.int .i64 d1, .int .i64 f1, .slice A1 ss1.length c1, .int .i64 d2, .int .i64 f2, .slice A2 ss2.length c2, .slice A3 st.length c3, .slice A4 P.length c4, .slice A5 pp.length c5, .int .i64 m] 41 (0, 0)) := by rw [he_w3]; exact (blk_alloc hk_a_w2 _)
        have hk_r_w3 : w3.heap[w.heap.size + 1]? = some (.cells #[.int .i64 0, .int .i64 0, .slice none 0 0, .int .i64 0, .int .i64 0, .slice none 0 0, .slice none 0 0, .slice none 0 0, .slice none 0 0, .int .i64 0] 41 (0, 0)) := by rw [he_w3]; exact (blk_alloc hk_r_w2 _)
        have hk_cd_w3 : w3.heap[w2.heap.size]? = some (.cells #[.int .i64 dn, .int .i64 fn, .slice E2 ssn.length g2] 34 (0, 0)) := by rw [he_w3]; exact (blk_new_at w2 (.cells #[.int .i64 dn, .int .i64 fn, .slice E2 ssn.length g2] 34) (k := w2.heap.size) (by simp [World.setCell]))
        have hbw_w3 : Below w.heap.size w w3 := by rw [he_w3]; exact bel
        have hsw_w3 := hbw_w3.size
        have hch_w3 : w2.heap.size ≤ w3.heap.size := by rw [he_w3]; simp [World.setCell]; try omega
        rw [← he_w3]
        clear hk_a_w2 hk_r_w2 hl_a hl_r hbw_w2 hsw_w2 he_w3
        refine (i_workCopied d1 f1 ss1 d2 f2 ss2 st P pp m B A1 A2 A3 A4 A5 c1 c2 c3 c4 c5 w3 (hS.below (hbw_w3.mono hB)) (Nat.le_trans hB hsw_w3)).mono ?_
        rintro e w4 ⟨B1, e1, B2q, e2, B3, e3, B4, e4, B5, e5, rfl, hon, hb_w4⟩
        obtain ⟨l1, h1_, l2, h2_, l3, h3_, L4, hr, ha, hx, hp4, hy, hz⟩ := hon.all
        have HP4 := Lib.hid hp4
        have HR := hide hr
        have HA := hide ha
        clear hon hr ha hp4
        have hk_a_w4 := blk_next hk_a_w3 hb_w4
        have hk_r_w4 := blk_next hk_r_w3 hb_w4
        have hk_cd_w4 := blk_next hk_cd_w3 hb_w4
        have hbw_w4 : Below w.heap.size w w4 := hbw_w3.trans (hb_w4.mono hsw_w3)
        have hsw_w4 := hbw_w4.size
        have hch_w4 : w3.heap.size ≤ w4.heap.size := hb_w4.size
        clear hk_a_w3 hk_r_w3 hk_cd_w3 hbw_w3 hsw_w3 hb_w4
        have ho_x_w4 := hx
        clear hx
        have ho_y_w4 := hy
        clear hy
        have ho_z_w4 := hz
        clear hz
        obtain ⟨x0_a, x1_a, x2_a, x3_a, x4_a, x5_a, x6_a, x7_a, x8_a, x9_a, xl_a⟩ := blk10 hk_a_w4
        go_wp2_with fail
        clear x0_a x1_a x2_a x3_a x4_a x5_a x6_a x7_a x8_a x9_a xl_a
        have hl_a := blk_lt hk_a_w4
        have hl_r := blk_lt hk_r_w4
        have hl_cd := blk_lt hk_cd_w4
        have hlt_a_w5 := blk_lt hk_a_w4
        have hlt_r_w5 := blk_lt hk_r_w4
        have hlt_cd_w5 := blk_lt hk_cd_w4
        obtain ⟨w5, he_w5⟩ : ∃ x, x = (w4.alloc (.cells #[.int .i64 d1, .int .i64 f1, .slice B1 ss1.length e1, .int .i64 d2, .int .i64 f2, .slice B2q ss2.length e2, .slice B3 st.length e3, .slice B4 P.length e4, .slice B5 pp.length e5, .int .i64 m] 41)) := ⟨_, rfl⟩
        have hk_a_w5 : w5.heap[w.heap.size]? = some (.cells #[.int .i64 d1, .int .i64 f1, .slice A1 ss1.length c1, .int .i64 d2, .int .i64 f2, .slice A2 ss2.length c2, .slice A3 st.length c3, .slice A4 P.length c4, .slice A5 pp.length c5, .int .i64 m] 41 (0, 0)) := by rw [he_w5]; exact (blk_alloc hk_a_w4 _)
        have hk_r_w5 : w5.heap[w.heap.size + 1]? = some (.cells #[.int .i64 0, .int .i64 0, .slice none 0 0, .int .i64 0, .int .i64 0, .slice none 0 0, .slice none 0 0, .slice none 0 0, .slice none 0 0, .int .i64 0] 41 (0, 0)) := by rw [he_w5]; exact (blk_alloc hk_r_w4 _)
        have hk_cd_w5 : w5.heap[w2.heap.size]? = some (.cells #[.int .i64 dn, .int .i64 fn, .slice E2 ssn.length g2] 34 (0, 0)) := by rw [he_w5]; exact (blk_alloc hk_cd_w4 _)
        have hk_o_w5 : w5.heap[w4.heap.size]? = some (.cells #[.int .i64 d1, .int .i64 f1, .slice B1 ss1.length e1, .int .i64 d2, .int .i64 f2, .slice B2q ss2.length e2, .slice B3 st.length e3, .slice B4 P.length e4, .slice B5 pp.length e5, .int .i64 m] 41 (0, 0)) := by rw [he_w5]; exact (blk_new_at w4 (.cells #[.int .i64 d1, .int .i64 f1, .slice B1 ss1.length e1, .int .i64 d2, .int .i64 f2, .slice B2q ss2.length e2, .slice B3 st.length e3, .slice B4 P.length e4, .slice B5 pp.length e5, .int .i64 m] 41) (k := w4.heap.size) (by simp [World.setCell]))
        have hBX : Boxy w4 w5 := by rw [he_w5]; exact boxy
        have ho_x_w5 := ho_x_w4.boxy hBX
        have ho_y_w5 := ho_y_w4.boxy hBX
        have ho_z_w5 := ho_z_w4.boxy hBX
        have hbw_w5 : Below w.heap.size w w5 := by rw [he_w5]; exact bel
        have hsw_w5 := hbw_w5.size
        have hch_w5 : w4.heap.size ≤ w5.heap.size := by rw [he_w5]; simp [World.setCell]; try omega
        rw [← he_w5]
        clear hk_a_w4 hk_r_w4 hk_cd_w4 ho_x_w4 ho_y_w4 ho_z_w4 hl_a hl_r hl_cd hBX hbw_w4 hsw_w4 he_w5
        refine (unhide HUS _ hbw_w5).mono ?_
        rintro e w6 ⟨E5, g5, rfl, hon5, hb_w6⟩
        have hk_a_w6 := blk_next hk_a_w5 hb_w6
        have hk_r_w6 := blk_next hk_r_w5 hb_w6
        have hk_cd_w6 := blk_next hk_cd_w5 hb_w6
        have hk_o_w6 := blk_next hk_o_w5 hb_w6
        have ho_x_w6 := ho_x_w5.below hb_w6
        have ho_y_w6 := ho_y_w5.below hb_w6
        have ho_z_w6 := ho_z_w5.below hb_w6
        have hbw_w6 : Below w.heap.size w w6 := hbw_w5.trans (hb_w6.mono hsw_w5)
        have hsw_w6 := hbw_w6.size
        have hch_w6 : w5.heap.size ≤ w6.heap.size := hb_w6.size
        clear hk_a_w5 hk_r_w5 hk_cd_w5 hk_o_w5 ho_x_w5 ho_y_w5 ho_z_w5 hbw_w5 hsw_w5 hb_w6
        have ho_q_w6 := hon5
        clear hon5
        clear ho_z_w6
        obtain ⟨x0_a, x1_a, x2_a, x3_a, x4_a, x5_a, x6_a, x7_a, x8_a, x9_a, xl_a⟩ := blk10 hk_a_w6
        obtain ⟨x0_o, x1_o, x2_o, x3_o, x4_o, x5_o, x6_o, x7_o, x8_o, x9_o, xl_o⟩ := blk10 hk_o_w6
        have f0_o := (blk_cells hk_o_w6 0).2
        have f1_o := (blk_cells hk_o_w6 1).2
        have f2_o := (blk_cells hk_o_w6 2).2
        have f3_o := (blk_cells hk_o_w6 3).2
        have f4_o := (blk_cells hk_o_w6 4).2
        have f5_o := (blk_cells hk_o_w6 5).2
        have f6_o := (blk_cells hk_o_w6 6).2
        have f7_o := (blk_cells hk_o_w6 7).2
        have f8_o := (blk_cells hk_o_w6 8).2
        have f9_o := (blk_cells hk_o_w6 9).2
        go_wp2_with fail
        clear x0_a x1_a x2_a x3_a x4_a x5_a x6_a x7_a x8_a x9_a xl_a x0_o x1_o x2_o x3_o x4_o x5_o x6_o x7_o x8_o x9_o xl_o f0_o f1_o f2_o f3_o f4_o f5_o f6_o f7_o f8_o f9_o
        have hl_a := blk_lt hk_a_w6
        have hl_r := blk_lt hk_r_w6
        have hl_cd := blk_lt hk_cd_w6
        have hl_o := blk_lt hk_o_w6
        have hbx_o := boxAt_of hk_o_w6
        obtain ⟨w7, he_w7⟩ : ∃ x, x = ((w6.setCell ⟨w4.heap.size, 8, none⟩ (.slice E5 ppq.length g5)).setCell ⟨w4.heap.size, 9, none⟩ (.int .i64 mo)) := ⟨_, rfl⟩
        have hk_a_w7 : w7.heap[w.heap.size]? = some (.cells #[.int .i64 d1, .int .i64 f1, .slice A1 ss1.length c1, .int .i64 d2, .int .i64 f2, .slice A2 ss2.length c2, .slice A3 st.length c3, .slice A4 P.length c4, .slice A5 pp.length c5, .int .i64 m] 41 (0, 0)) := by rw [he_w7]; exact (blk_other (p := ⟨w4.heap.size, 9, none⟩) (blk_other (p := ⟨w4.heap.size, 8, none⟩) hk_a_w6 (show ¬ w.heap.size = w4.heap.size by omega) (.slice E5 ppq.length g5)) (show ¬ w.heap.size = w4.heap.size by omega) (.int .i64 mo))
        have hk_r_w7 : w7.heap[w.heap.size + 1]? = some (.cells #[.int .i64 0, .int .i64 0, .slice none 0 0, .int .i64 0, .int .i64 0, .slice none 0 0, .slice none 0 0, .slice none 0 0, .slice none 0 0, .int .i64 0] 41 (0, 0)) := by rw [he_w7]; exact (blk_other (p := ⟨w4.heap.size, 9, none⟩) (blk_other (p := ⟨w4.heap.size, 8, none⟩) hk_r_w6 (show ¬ w.heap.size + 1 = w4.heap.size by omega) (.slice E5 ppq.length g5)) (show ¬ w.heap.size + 1 = w4.heap.size by omega) (.int .i64 mo))
        have hk_cd_w7 : w7.heap[w2.heap.size]? = some (.cells #[.int .i64 dn, .int .i64 fn, .slice E2 ssn.length g2] 34 (0, 0)) := by rw [he_w7]; exact (blk_other (p := ⟨w4.heap.size, 9, none⟩) (blk_other (p := ⟨w4.heap.size, 8, none⟩) hk_cd_w6 (show ¬ w2.heap.size = w4.heap.size by omega) (.slice E5 ppq.length g5)) (show ¬ w2.heap.size = w4.heap.size by omega) (.int .i64 mo))
        have hk_o_w7 : w7.heap[w4.heap.size]? = some (.cells #[.int .i64 d1, .int .i64 f1, .slice B1 ss1.length e1, .int .i64 d2, .int .i64 f2, .slice B2q ss2.length e2, .slice B3 st.length e3, .slice B4 P.length e4, .slice E5 ppq.length g5, .int .i64 mo] 41 (0, 0)) := by rw [he_w7]; have hq9 := (blk_set (blk_set hk_o_w6 8 (.slice E5 ppq.length g5)) 9 (.int .i64 mo)); simpa using hq9
        have hBX : Boxy w6 w7 := by rw [he_w7]; exact boxy
        have ho_x_w7 := ho_x_w6.boxy hBX
        have ho_y_w7 := ho_y_w6.boxy hBX
        have ho_q_w7 := ho_q_w6.boxy hBX
        have hbw_w7 : Below w.heap.size w w7 := by rw [he_w7]; exact bel
        have hsw_w7 := hbw_w7.size
        have hch_w7 : w6.heap.size ≤ w7.heap.size := by rw [he_w7]; simp [World.setCell]; try omega
        rw [← he_w7]
        clear hk_a_w6 hk_r_w6 hk_cd_w6 hk_o_w6 ho_x_w6 ho_y_w6 ho_q_w6 hl_a hl_r hl_cd hl_o hbx_o hBX hbw_w6 hsw_w6 he_w7
        refine (i_wchanged_yes d1 f1 ss1 d2 f2 ss2 st P pp m d1 f1 ss1 d2 f2 ss2 st P ppq mo A1 A2 A3 A4 A5 c1 c2 c3 c4 c5 B1 B2q B3 B4 E5 e1 e2 e3 e4 g5 B w7.heap.size w7 (hS.below (hbw_w7.mono hB)) (Nat.le_trans hB hsw_w7) ⟨ho_x_w7.rd ((unhide HOK).d.more (by omega)), ⟨L4, HP4.out, ho_y_w7.rdP HP4.out ((unhide HOK).i.more (by omega))⟩, ho_q_w7.rd (by have := unhide HUL; omega), own_capU ho_y_w7.row⟩ (Nat.le_refl _) HW1.out HW2.out).mono ?_
        rintro e w8 ⟨rfl, hb_w8⟩
        have hk_a_w8 := blk_next hk_a_w7 hb_w8
        have hk_r_w8 := blk_next hk_r_w7 hb_w8
        have hk_cd_w8 := blk_next hk_cd_w7 hb_w8
        have hk_o_w8 := blk_next hk_o_w7 hb_w8
        have ho_x_w8 := ho_x_w7.below hb_w8
        have ho_y_w8 := ho_y_w7.below hb_w8
        have ho_q_w8 := ho_q_w7.below hb_w8
        have hbw_w8 : Below w.heap.size w w8 := hbw_w7.trans (hb_w8.mono hsw_w7)
        have hsw_w8 := hbw_w8.size
        have hch_w8 : w7.heap.size ≤ w8.heap.size := hb_w8.size
        clear hk_a_w7 hk_r_w7 hk_cd_w7 hk_o_w7 ho_x_w7 ho_y_w7 ho_q_w7 hbw_w7 hsw_w7 hb_w8
        obtain ⟨x0_r, x1_r, x2_r, x3_r, x4_r, x5_r, x6_r, x7_r, x8_r, x9_r, xl_r⟩ := blk10 hk_r_w8
        have f0_r := (blk_cells hk_r_w8 0).2
        have f1_r := (blk_cells hk_r_w8 1).2
        have f2_r := (blk_cells hk_r_w8 2).2
        have f3_r := (blk_cells hk_r_w8 3).2
        have f4_r := (blk_cells hk_r_w8 4).2
        have f5_r := (blk_cells hk_r_w8 5).2
        have f6_r := (blk_cells hk_r_w8 6).2
        have f7_r := (blk_cells hk_r_w8 7).2
        have f8_r := (blk_cells hk_r_w8 8).2
        have f9_r := (blk_cells hk_r_w8 9).2
        go_wp2
        have hbx_r := boxAt_of hk_r_w8
        refine bodyPost_ret (v := .tuple #[.agg #[.int .i64 d1, .int .i64 f1, .slice B1 ss1.length e1, .int .i64 d2, .int .i64 f2, .slice B2q ss2.length e2, .slice B3 st.length e3, .slice B4 P.length e4, .slice E5 ppq.length g5, .int .i64 mo], .bool true]) (by simp [results, Tryz.results41, go_sem, *]) rfl ?_
        clear x0_r x1_r x2_r x3_r x4_r x5_r x6_r x7_r x8_r x9_r xl_r f0_r f1_r f2_r f3_r f4_r f5_r f6_r f7_r f8_r f9_r
        obtain ⟨wE, heE⟩ : ∃ x, x = ((((((((((w8.setCell ⟨w.heap.size + 1, 0, none⟩ (.int .i64 d1)).setCell ⟨w.heap.size + 1, 1, none⟩ (.int .i64 f1)).setCell ⟨w.heap.size + 1, 2, none⟩ (.slice B1 ss1.length e1)).setCell ⟨w.heap.size + 1, 3, none⟩ (.int .i64 d2)).setCell ⟨w.heap.size + 1, 4, none⟩ (.int .i64 f2)).setCell ⟨w.heap.size + 1, 5, none⟩ (.slice B2q ss2.length e2)).setCell ⟨w.heap.size + 1, 6, none⟩ (.slice B3 st.length e3)).setCell ⟨w.heap.size + 1, 7, none⟩ (.slice B4 P.length e4)).setCell ⟨w.heap.size + 1, 8, none⟩ (.slice E5 ppq.length g5)).setCell ⟨w.heap.size + 1, 9, none⟩ (.int .i64 mo)) := ⟨_, rfl⟩
        have hBX : Boxy w8 wE := by rw [heE]; exact boxy
        have hBW : Below w.heap.size w wE := by rw [heE]; exact bel
        have hsE : wE.heap.size = w8.heap.size := by rw [heE]; simp [World.setCell]
        rw [← heE]
        clear heE
        have hr1 := unhide HR
        have ha1 := unhide HA
        have hOW : OwnW wE w.heap.size wE.heap.size B1 e1 B2q e2 B3 e3 B4 e4 E5 g5 (PDraft.mk d1 f1 ss1 d2 f2 ss2 st) P ppq := OwnW.mk3 (ho_x_w8.boxy hBX) HP4.out (ho_y_w8.boxy hBX) (ho_q_w8.boxy hBX) (by omega) (by omega)
        exact uwb_cast HR4.out ⟨B1, e1, B2q, e2, B3, e3, B4, e4, E5, g5, rfl, hOW, hBW⟩
end Go.Proofs.YtdddglihomchfaaGreat
namespace Go.Proofs.YtdddglihomchfaaGreat
open Go.ChangeShapes Go.WideShapes Go.ChangeAt Go.RowKit
set_option linter.unusedVariables false
set_option linter.unusedSimpArgs false
set_option maxRecDepth 10000
theorem u_toPaperS (pp : List PPaper) (B : Nat) (A : Option Addr) (c : Nat) (w : World) (hS : Papers w B A pp.length pp) (hB : B ≤ w.heap.size) :
    Calls Tryz.prog 68 #[.slice A pp.length c] w fun e w' => ∃ A' c', e = .returned (.slice A' pp.length c') ∧ OwnP w' w.heap.size w'.heap.size A' c' pp ∧ Below w.heap.size w w' :=
  (l_toPaperS B A _ c pp w hS hB).mono fun _ _ h => by
    obtain ⟨A', c', he, ho, hb⟩ := h
    exact ⟨A', c', he, OwnP.of ho (Nat.le_refl _), hb⟩
theorem u_toItemS2 (P : List PItem) (B : Nat) (A : Option Addr) (c : Nat) (L : List RItem) (w : World) (hp : plI L = P) (hS : Items w B A P.length L) (hB : B ≤ w.heap.size) :
    Calls Tryz.prog 67 #[.slice A P.length c] w (UItems P w) := by
  have hl : L.length = P.length := hS.len
  have h := u_toItemS P B A c L w hp (by rw [hl]; exact hS) hB
  rw [hl] at h
  exact h
set_option maxHeartbeats 3200000 in
theorem u_toWorkshop (d1 f1 : Int) (ss1 : List ByteArray) (d2 f2 : Int) (ss2 : List ByteArray) (st : List PStep) (P : List PItem) (pp : List PPaper) (m : Int) (B : Nat) (A1 A2 A3 A4 A5 : Option Addr) (c1 c2 c3 c4 c5 : Nat) (w : World) (hS : RdWork0 w B A1 A2 A3 A4 A5 ⟨d1, f1, ss1, d2, f2, ss2, st⟩ P pp) (hB : B ≤ w.heap.size) :
    Calls Tryz.prog 17 #[.agg #[.int .i64 d1, .int .i64 f1, .slice A1 ss1.length c1, .int .i64 d2, .int .i64 f2, .slice A2 ss2.length c2, .slice A3 st.length c3, .slice A4 P.length c4, .slice A5 pp.length c5, .int .i64 m]] w (UWork d1 f1 ss1 d2 f2 ss2 st P pp m w) := by
  obtain ⟨L, hpl, hL⟩ := hS.i
  have HPL := Lib.hid hpl
  have hlen : L.length = P.length := hL.len
  clear hpl
  go_enter Tryz.func17, Tryz.ntmps17
  go_wp2_with fail
  have hb0 : Below w.heap.size w (((w.alloc (.cells #[.int .i64 d1, .int .i64 f1, .slice A1 ss1.length c1, .int .i64 d2, .int .i64 f2, .slice A2 ss2.length c2, .slice A3 st.length c3, .slice A4 P.length c4, .slice A5 pp.length c5, .int .i64 m] 31)).alloc (.cells #[.int .i64 0, .int .i64 0, .slice none 0 0, .int .i64 0, .int .i64 0, .slice none 0 0, .slice none 0 0, .slice none 0 0, .slice none 0 0, .int .i64 0] 41)).alloc (.cells #[.int .i64 0, .int .i64 0, .slice none 0 0, .int .i64 0, .int .i64 0, .slice none 0 0, .slice none 0 0, .slice none 0 0, .slice none 0 0, .int .i64 0] 41)) := (((Below.refl _ _).alloc (Nat.le_refl _) _).alloc (by simp) _).alloc (by simp; omega) _
  have hka : (((w.alloc (.cells #[.int .i64 d1, .int .i64 f1, .slice A1 ss1.length c1, .int .i64 d2, .int .i64 f2, .slice A2 ss2.length c2, .slice A3 st.length c3, .slice A4 P.length c4, .slice A5 pp.length c5, .int .i64 m] 31)).alloc (.cells #[.int .i64 0, .int .i64 0, .slice none 0 0, .int .i64 0, .int .i64 0, .slice none 0 0, .slice none 0 0, .slice none 0 0, .slice none 0 0, .int .i64 0] 41)).alloc (.cells #[.int .i64 0, .int .i64 0, .slice none 0 0, .int .i64 0, .int .i64 0, .slice none 0 0, .slice none 0 0, .slice none 0 0, .slice none 0 0, .int .i64 0] 41)).heap[w.heap.size]? = some (.cells #[.int .i64 d1, .int .i64 f1, .slice A1 ss1.length c1, .int .i64 d2, .int .i64 f2, .slice A2 ss2.length c2, .slice A3 st.length c3, .slice A4 P.length c4, .slice A5 pp.length c5, .int .i64 m] 31 (0, 0)) := blk_alloc (blk_alloc (blk_new _ _) _) _
  have hko : (((w.alloc (.cells #[.int .i64 d1, .int .i64 f1, .slice A1 ss1.length c1, .int .i64 d2, .int .i64 f2, .slice A2 ss2.length c2, .slice A3 st.length c3, .slice A4 P.length c4, .slice A5 pp.length c5, .int .i64 m] 31)).alloc (.cells #[.int .i64 0, .int .i64 0, .slice none 0 0, .int .i64 0, .int .i64 0, .slice none 0 0, .slice none 0 0, .slice none 0 0, .slice none 0 0, .int .i64 0] 41)).alloc (.cells #[.int .i64 0, .int .i64 0, .slice none 0 0, .int .i64 0, .int .i64 0, .slice none 0 0, .slice none 0 0, .slice none 0 0, .slice none 0 0, .int .i64 0] 41)).heap[w.heap.size + 1 + 1]? = some (.cells #[.int .i64 0, .int .i64 0, .slice none 0 0, .int .i64 0, .int .i64 0, .slice none 0 0, .slice none 0 0, .slice none 0 0, .slice none 0 0, .int .i64 0] 41 (0, 0)) := blk_new_at _ _ (by simp)
  have hkr : (((w.alloc (.cells #[.int .i64 d1, .int .i64 f1, .slice A1 ss1.length c1, .int .i64 d2, .int .i64 f2, .slice A2 ss2.length c2, .slice A3 st.length c3, .slice A4 P.length c4, .slice A5 pp.length c5, .int .i64 m] 31)).alloc (.cells #[.int .i64 0, .int .i64 0, .slice none 0 0, .int .i64 0, .int .i64 0, .slice none 0 0, .slice none 0 0, .slice none 0 0, .slice none 0 0, .int .i64 0] 41)).alloc (.cells #[.int .i64 0, .int .i64 0, .slice none 0 0, .int .i64 0, .int .i64 0, .slice none 0 0, .slice none 0 0, .slice none 0 0, .slice none 0 0, .int .i64 0] 41)).heap[w.heap.size + 1]? = some (.cells #[.int .i64 0, .int .i64 0, .slice none 0 0, .int .i64 0, .int .i64 0, .slice none 0 0, .slice none 0 0, .slice none 0 0, .slice none 0 0, .int .i64 0] 41 (0, 0)) := blk_alloc (blk_new_at _ _ (by simp)) _
  generalize (((w.alloc (.cells #[.int .i64 d1, .int .i64 f1, .slice A1 ss1.length c1, .int .i64 d2, .int .i64 f2, .slice A2 ss2.length c2, .slice A3 st.length c3, .slice A4 P.length c4, .slice A5 pp.length c5, .int .i64 m] 31)).alloc (.cells #[.int .i64 0, .int .i64 0, .slice none 0 0, .int .i64 0, .int .i64 0, .slice none 0 0, .slice none 0 0, .slice none 0 0, .slice none 0 0, .int .i64 0] 41)).alloc (.cells #[.int .i64 0, .int .i64 0, .slice none 0 0, .int .i64 0, .int .i64 0, .slice none 0 0, .slice none 0 0, .slice none 0 0, .slice none 0 0, .int .i64 0] 41)) = w0 at *
  have hs0 : w.heap.size + 3 ≤ w0.heap.size := by have := blk_lt hko; omega
  refine (u_toDraftW d1 f1 ss1 d2 f2 ss2 st B A1 A2 A3 c1 c2 c3 w0 (hS.d.below (hb0.mono hB)) (by omega)).mono ?_
  rintro e w1 ⟨B1, e1, B2, e2, B3, e3, rfl, ho1, hb1⟩
  have hka1 := blk_next hka hb1
  have hko1 := blk_next hko hb1
  have hkr1 := blk_next hkr hb1
  have hbw1 : Below w.heap.size w w1 := hb0.trans (hb1.mono (by omega))
  have hs1 := hb1.size
  clear hka hko hkr hb1 hb0
  obtain ⟨hx0, hx1, hx2, hx3, hx4, hx5, hx6, hx7, hx8, hx9, hxl⟩ := blk10 hka1
  obtain ⟨hy0, hy1, hy2, hy3, hy4, hy5, hy6, hy7, hy8, hy9, hyl⟩ := blk10 hko1
  obtain ⟨⟨hv0, hv1, hv2, hv3, hv4⟩, hv5, hv6, hv7, hv8, hv9⟩ := blk10f hko1
  go_wp2_with fail
  clear hx0 hx1 hx2 hx3 hx4 hx5 hx6 hx7 hx8 hx9 hxl
  clear hy0 hy1 hy2 hy3 hy4 hy5 hy6 hy7 hy8 hy9 hyl
  clear hv0 hv1 hv2 hv3 hv4 hv5 hv6 hv7 hv8 hv9
  have hkos := blk10_set7 hko1 (.int .i64 d1) (.int .i64 f1) (.slice B1 ss1.length e1) (.int .i64 d2) (.int .i64 f2) (.slice B2 ss2.length e2) (.slice B3 st.length e3)
  have hkas := blk_other7 hka1 (show w.heap.size ≠ w.heap.size + 1 + 1 by omega) (.int .i64 d1) (.int .i64 f1) (.slice B1 ss1.length e1) (.int .i64 d2) (.int .i64 f2) (.slice B2 ss2.length e2) (.slice B3 st.length e3)
  have hkrs := blk_other7 hkr1 (show w.heap.size + 1 ≠ w.heap.size + 1 + 1 by omega) (.int .i64 d1) (.int .i64 f1) (.slice B1 ss1.length e1) (.int .i64 d2) (.int .i64 f2) (.slice B2 ss2.length e2) (.slice B3 st.length e3)
  have hos := ho1.box hko1 (by decide) (only7 (.int .i64 d1) (.int .i64 f1) (.slice B1 ss1.length e1) (.int .i64 d2) (.int .i64 f2) (.slice B2 ss2.length e2) (.slice B3 st.length e3))
  have hbs : Below w.heap.size w (((((((w1.setCell ⟨w.heap.size + 1 + 1, 0, none⟩ (.int .i64 d1)).setCell ⟨w.heap.size + 1 + 1, 1, none⟩ (.int .i64 f1)).setCell ⟨w.heap.size + 1 + 1, 2, none⟩ (.slice B1 ss1.length e1)).setCell ⟨w.heap.size + 1 + 1, 3, none⟩ (.int .i64 d2)).setCell ⟨w.heap.size + 1 + 1, 4, none⟩ (.int .i64 f2)).setCell ⟨w.heap.size + 1 + 1, 5, none⟩ (.slice B2 ss2.length e2)).setCell ⟨w.heap.size + 1 + 1, 6, none⟩ (.slice B3 st.length e3)) := only_below_B hbw1 (only7 _ _ _ _ _ _ _)
  have hss : (((((((w1.setCell ⟨w.heap.size + 1 + 1, 0, none⟩ (.int .i64 d1)).setCell ⟨w.heap.size + 1 + 1, 1, none⟩ (.int .i64 f1)).setCell ⟨w.heap.size + 1 + 1, 2, none⟩ (.slice B1 ss1.length e1)).setCell ⟨w.heap.size + 1 + 1, 3, none⟩ (.int .i64 d2)).setCell ⟨w.heap.size + 1 + 1, 4, none⟩ (.int .i64 f2)).setCell ⟨w.heap.size + 1 + 1, 5, none⟩ (.slice B2 ss2.length e2)).setCell ⟨w.heap.size + 1 + 1, 6, none⟩ (.slice B3 st.length e3)).heap.size = w1.heap.size := by simp [World.setCell]
  clear hbw1 hka1 hko1 hkr1 ho1
  generalize (((((((w1.setCell ⟨w.heap.size + 1 + 1, 0, none⟩ (.int .i64 d1)).setCell ⟨w.heap.size + 1 + 1, 1, none⟩ (.int .i64 f1)).setCell ⟨w.heap.size + 1 + 1, 2, none⟩ (.slice B1 ss1.length e1)).setCell ⟨w.heap.size + 1 + 1, 3, none⟩ (.int .i64 d2)).setCell ⟨w.heap.size + 1 + 1, 4, none⟩ (.int .i64 f2)).setCell ⟨w.heap.size + 1 + 1, 5, none⟩ (.slice B2 ss2.length e2)).setCell ⟨w.heap.size + 1 + 1, 6, none⟩ (.slice B3 st.length e3)) = w2 at *
  refine (u_toItemS2 P B A4 c4 L w2 HPL.out (hL.below (hbs.mono hB)) (by omega)).mono ?_
  rintro e w3 ⟨B4, e4, L3, rfl, hp3, hi3, hb3⟩
  have HP3 := Lib.hid hp3
  have hka3 := blk_next hkas hb3
  have hko3 := blk_next hkos hb3
  have hkr3 := blk_next hkrs hb3
  have ho3 := hos.below hb3
  have hbw3 : Below w.heap.size w w3 := hbs.trans (hb3.mono (by omega))
  have hs3 := hb3.size
  clear hkas hkos hkrs hos hbs hb3 hp3
  obtain ⟨hx0, hx1, hx2, hx3, hx4, hx5, hx6, hx7, hx8, hx9, hxl⟩ := blk10 hka3
  obtain ⟨hy0, hy1, hy2, hy3, hy4, hy5, hy6, hy7, hy8, hy9, hyl⟩ := blk10 hko3
  obtain ⟨⟨hv0, hv1, hv2, hv3, hv4⟩, hv5, hv6, hv7, hv8, hv9⟩ := blk10f hko3
  go_wp2_with fail
  clear hx0 hx1 hx2 hx3 hx4 hx5 hx6 hx7 hx8 hx9 hxl
  clear hy0 hy1 hy2 hy3 hy4 hy5 hy6 hy7 hy8 hy9 hyl
  clear hv0 hv1 hv2 hv3 hv4 hv5 hv6 hv7 hv8 hv9
  have hkos : (w3.setCell ⟨w.heap.size + 1 + 1, 7, none⟩ (.slice B4 P.length e4)).heap[w.heap.size + 1 + 1]? = some (.cells #[.int .i64 d1, .int .i64 f1, .slice B1 ss1.length e1, .int .i64 d2, .int .i64 f2, .slice B2 ss2.length e2, .slice B3 st.length e3, .slice B4 P.length e4, .slice none 0 0, .int .i64 0] 41 (0, 0)) := by have := blk_set hko3 7 (.slice B4 P.length e4); simpa using this
  have hkas := blk_other (p := ⟨w.heap.size + 1 + 1, 7, none⟩) hka3 (show w.heap.size ≠ w.heap.size + 1 + 1 by omega) (.slice B4 P.length e4)
  have hkrs := blk_other (p := ⟨w.heap.size + 1 + 1, 7, none⟩) hkr3 (show w.heap.size + 1 ≠ w.heap.size + 1 + 1 by omega) (.slice B4 P.length e4)
  have hos := ho3.box hko3 (by decide) (only1 (i := 7) (.slice B4 P.length e4))
  have his := hi3.box hko3 (by decide) (only1 (i := 7) (.slice B4 P.length e4))
  have hbs : Below w.heap.size w (w3.setCell ⟨w.heap.size + 1 + 1, 7, none⟩ (.slice B4 P.length e4)) := only_below_B hbw3 (only1 _)
  have hss3 : (w3.setCell ⟨w.heap.size + 1 + 1, 7, none⟩ (.slice B4 P.length e4)).heap.size = w3.heap.size := by simp [World.setCell]
  clear hbw3 hka3 hko3 hkr3 ho3 hi3
  generalize (w3.setCell ⟨w.heap.size + 1 + 1, 7, none⟩ (.slice B4 P.length e4)) = w4 at *
  refine (u_toPaperS pp B A5 c5 w4 (hS.p.below (hbs.mono hB)) (by omega)).mono ?_
  rintro e w5 ⟨B5, e5, rfl, hp5, hb5⟩
  have hka5 := blk_next hkas hb5
  have hko5 := blk_next hkos hb5
  have hkr5 := blk_next hkrs hb5
  have ho5 := hos.below hb5
  have hi5 := his.below hb5
  have hbw5 : Below w.heap.size w w5 := hbs.trans (hb5.mono (by omega))
  have hs5 := hb5.size
  clear hkas hkos hkrs hos his hbs hb5
  obtain ⟨hx0, hx1, hx2, hx3, hx4, hx5, hx6, hx7, hx8, hx9, hxl⟩ := blk10 hka5
  obtain ⟨hy0, hy1, hy2, hy3, hy4, hy5, hy6, hy7, hy8, hy9, hyl⟩ := blk10 hko5
  obtain ⟨⟨hv0, hv1, hv2, hv3, hv4⟩, hv5, hv6, hv7, hv8, hv9⟩ := blk10f hko5
  obtain ⟨hr0, hr1, hr2, hr3, hr4, hr5, hr6, hr7, hr8, hr9, hrl⟩ := blk10 hkr5
  obtain ⟨⟨hu0, hu1, hu2, hu3, hu4⟩, hu5, hu6, hu7, hu8, hu9⟩ := blk10f hkr5
  go_wp2
  refine bodyPost_ret (v := .agg #[.int .i64 d1, .int .i64 f1, .slice B1 ss1.length e1, .int .i64 d2, .int .i64 f2, .slice B2 ss2.length e2, .slice B3 st.length e3, .slice B4 P.length e4, .slice B5 pp.length e5, .int .i64 m]) (by simp [results, Tryz.results17, go_sem, *]) rfl ?_
  have hbxo := boxAt_of hko5
  have hbxr := boxAt_of hkr5
  have hbx : Boxy w5 ((((((((((((w5.setCell ⟨w.heap.size + 1 + 1, 8, none⟩ (.slice B5 pp.length e5)).setCell ⟨w.heap.size + 1 + 1, 9, none⟩ (.int .i64 m)).setCell ⟨w.heap.size + 1, 0, none⟩ (.int .i64 d1)).setCell ⟨w.heap.size + 1, 1, none⟩ (.int .i64 f1)).setCell ⟨w.heap.size + 1, 2, none⟩ (.slice B1 ss1.length e1)).setCell ⟨w.heap.size + 1, 3, none⟩ (.int .i64 d2)).setCell ⟨w.heap.size + 1, 4, none⟩ (.int .i64 f2)).setCell ⟨w.heap.size + 1, 5, none⟩ (.slice B2 ss2.length e2)).setCell ⟨w.heap.size + 1, 6, none⟩ (.slice B3 st.length e3)).setCell ⟨w.heap.size + 1, 7, none⟩ (.slice B4 P.length e4)).setCell ⟨w.heap.size + 1, 8, none⟩ (.slice B5 pp.length e5)).setCell ⟨w.heap.size + 1, 9, none⟩ (.int .i64 m)) := (by repeat (first | (with_reducible exact Boxy.refl _) | (with_reducible refine Boxy.drew ?_) | (with_reducible refine Boxy.drewN ?_ _) | (with_reducible refine Boxy.alloc ?_ _) | ((with_reducible refine Boxy.setCell ?_ ?hbs _); (case hbs => first | (with_reducible exact .inl (by assumption)) | exact .inl (by assumption) | exact .inr (by simp) | exact .inr (by simp; omega)))))
  refine ⟨B1, e1, B2, e2, B3, e3, B4, e4, B5, e5, rfl, OwnW.mk3 (ho5.boxy hbx) HP3.out (hi5.boxy hbx) (hp5.boxy hbx) (by simp [World.setCell]; omega) (by omega), bel⟩
end Go.Proofs.YtdddglihomchfaaGreat
namespace Go.Proofs.YtdddglihomchfaaGreat
open Go.ChangeShapes Go.WideShapes Go.ChangeAt Go.RowKit
set_option linter.unusedVariables false
set_option linter.unusedSimpArgs false
set_option maxRecDepth 10000
def szPap (pp : List PPaper) (left : Int) : Int := if left - pp.length < 0 then -1 else left - pp.length
def szW (D : PDraft) (P : List PItem) (pp : List PPaper) (left : Int) : Int :=
  if szD D left < 0 then -1 else if szItems P (szD D left) < 0 then -1 else szPap pp (szItems P (szD D left))
theorem szPap_ub (pp : List PPaper) (l : Int) (h : l ≤ 1048576) : szPap pp l ≤ 1048576 := by unfold szPap; split <;> omega
theorem szPap_ge (pp : List PPaper) (l : Int) : -1 ≤ szPap pp l := by unfold szPap; split <;> omega
theorem szW_ub (D : PDraft) (P : List PItem) (pp : List PPaper) (l : Int) (h : l ≤ 1048576) : szW D P pp l ≤ 1048576 := by
  unfold szW
  split
  · omega
  · split
    · omega
    · exact szPap_ub _ _ (szItems_ub _ _ (szD_ub _ _ h))
structure RawWork (w : World) (B : Nat) (A1 A2 A3 A4 A5 : Option Addr) (D : PDraft) (P : List PItem) (pp : List PPaper) : Prop where
  d : RawDraft w B A1 A2 A3 D
  i : ∃ L, plI L = P ∧ RawItems w B A4 L
  p : Reads w B 3 A5 pp.length (pp.flatMap paperCells)
  pn : pp.length ≤ 9223372036854775807
theorem RawWork.below {w w' : World} {B : Nat} {A1 A2 A3 A4 A5 : Option Addr} {D : PDraft} {P : List PItem} {pp : List PPaper} (h : RawWork w B A1 A2 A3 A4 A5 D P pp) (hb : Below B w w') : RawWork w' B A1 A2 A3 A4 A5 D P pp := ⟨h.d.below hb, h.i.elim fun L q => ⟨L, q.1, q.2.below hb⟩, h.p.below hb, h.pn⟩
theorem RdWork0.raw {w : World} {B : Nat} {A1 A2 A3 A4 A5 : Option Addr} {D : PDraft} {P : List PItem} {pp : List PPaper} (h : RdWork0 w B A1 A2 A3 A4 A5 D P pp) : RawWork w B A1 A2 A3 A4 A5 D P pp :=
  ⟨h.d.raw, h.i.elim fun L q => ⟨L, q.1, Items.raw (by have hl := q.2.len; rw [hl]; exact q.2)⟩, h.p.rd, by have := h.p.nb; omega⟩
theorem work_of_sz {w : World} {A1 A2 A3 A4 A5 : Option Addr} {D : PDraft} {P : List PItem} {pp : List PPaper} {l : Int} (h : RawWork w w.heap.size A1 A2 A3 A4 A5 D P pp) (hl : l ≤ 1048576) (hz : 0 ≤ szW D P pp l) : RdWork0 w w.heap.size A1 A2 A3 A4 A5 D P pp ∧ OkWork D P pp 1048576 := by
  unfold szW at hz
  split at hz
  · omega
  · split at hz
    · omega
    · obtain ⟨h1, n1⟩ := draft_of_sz h.d hl (by omega)
      have u1 := szD_ub D l hl
      obtain ⟨L, rfl, hL⟩ := h.i
      obtain ⟨h2, n2⟩ := items_of_sz hL u1 (by omega)
      have u2 := szItems_ub (plI L) _ u1
      unfold szPap at hz
      split at hz
      · omega
      · exact ⟨⟨h1, ⟨L, rfl, by rw [plI_len]; exact h2⟩, ⟨h.p, by omega⟩⟩, ⟨n1, n2, by omega⟩⟩
set_option maxHeartbeats 400000 in
theorem l_szPaperS (pp : List PPaper) (A : Option Addr) (c : Nat) (left : Int) (w : World) (hn : pp.length ≤ 9223372036854775807) (h0 : -1 ≤ left) (h1 : left ≤ 1048576) :
    Calls Tryz.prog 61 #[.slice A pp.length c, .int .i64 left] w fun e w' => e = .returned (.int .i64 (szPap pp left)) ∧ Below w.heap.size w w' := by
  by_cases h3 : left - pp.length < 0
  · have HR : Hid (szPap pp left = -1) := by unfold Hid szPap; rw [if_pos h3]
    have hw : IntKind.i64.wrap (left - pp.length) = left - pp.length := by rw [IntKind.wrap_i64]; omega
    go_enter Tryz.func61, Tryz.ntmps61
    go_wp2
    go_ret
    exact ⟨ret_int HR.out.symm, bel⟩
  · have HR : Hid (szPap pp left = left - pp.length) := by unfold Hid szPap; rw [if_neg h3]
    have hw : IntKind.i64.wrap (left - pp.length) = left - pp.length := by rw [IntKind.wrap_i64]; omega
    go_enter Tryz.func61, Tryz.ntmps61
    go_wp2
    go_ret
    exact ⟨ret_int HR.out.symm, bel⟩
theorem l_szItemS2 (P : List PItem) (B : Nat) (A : Option Addr) (c : Nat) (L : List RItem) (left : Int) (w : World) (hp : plI L = P) (hR : RawItems w B A L) (hB : B ≤ w.heap.size) (h0 : -1 ≤ left) (h1 : left ≤ 1048576) :
    Calls Tryz.prog 60 #[.slice A P.length c, .int .i64 left] w fun e w' => e = .returned (.int .i64 (szItems P left)) ∧ Below w.heap.size w w' := by
  subst hp
  have h := l_szItemS B A c L left w hR hB h0 h1
  rw [← plI_len L] at h
  exact h
set_option maxHeartbeats 3200000 in
theorem l_szWorkshop (d1 f1 : Int) (ss1 : List ByteArray) (d2 f2 : Int) (ss2 : List ByteArray) (st : List PStep) (P : List PItem) (pp : List PPaper) (m : Int) (B : Nat) (A1 A2 A3 A4 A5 : Option Addr) (c1 c2 c3 c4 c5 : Nat) (left : Int) (w : World) (hB : B ≤ w.heap.size) (hR : RawWork w B A1 A2 A3 A4 A5 ⟨d1, f1, ss1, d2, f2, ss2, st⟩ P pp) (h0 : -1 ≤ left) (h1 : left ≤ 1048576) :
    Calls Tryz.prog 15 #[.agg #[.int .i64 d1, .int .i64 f1, .slice A1 ss1.length c1, .int .i64 d2, .int .i64 f2, .slice A2 ss2.length c2, .slice A3 st.length c3, .slice A4 P.length c4, .slice A5 pp.length c5, .int .i64 m], .int .i64 left] w fun e w' => e = .returned (.int .i64 (szW ⟨d1, f1, ss1, d2, f2, ss2, st⟩ P pp left)) ∧ Below w.heap.size w w' := by
  obtain ⟨L, hp, hL⟩ := hR.i
  have u1 := szD_ub ⟨d1, f1, ss1, d2, f2, ss2, st⟩ left h1
  have g1 : -1 ≤ szD ⟨d1, f1, ss1, d2, f2, ss2, st⟩ left := by
    rcases Int.lt_or_le (szD ⟨d1, f1, ss1, d2, f2, ss2, st⟩ left) 0 with h | h
    · rw [szDraft_n h]; omega
    · omega
  have u2 := szItems_ub P (szD ⟨d1, f1, ss1, d2, f2, ss2, st⟩ left) u1
  have g2 := szItems_ge P (szD ⟨d1, f1, ss1, d2, f2, ss2, st⟩ left) g1
  have g3 := szPap_ge pp (szItems P (szD ⟨d1, f1, ss1, d2, f2, ss2, st⟩ left))
  have hc1 := fun (W : World) (h : Below w.heap.size w W) => l_szDraft2 ⟨d1, f1, ss1, d2, f2, ss2, st⟩ B A1 A2 A3 c1 c2 c3 left W (Nat.le_trans hB h.size) (hR.d.below (h.mono hB)) h0 h1
  have hc2 := fun (W : World) (h : Below w.heap.size w W) => l_szItemS2 P B A4 c4 L (szD ⟨d1, f1, ss1, d2, f2, ss2, st⟩ left) W hp (hL.below (h.mono hB)) (Nat.le_trans hB h.size) g1 u1
  have hc3 := fun (W : World) => l_szPaperS pp A5 c5 (szItems P (szD ⟨d1, f1, ss1, d2, f2, ss2, st⟩ left)) W hR.pn g2 u2
  unfold szW
  generalize szPap pp (szItems P (szD ⟨d1, f1, ss1, d2, f2, ss2, st⟩ left)) = q3 at *
  generalize szItems P (szD ⟨d1, f1, ss1, d2, f2, ss2, st⟩ left) = q2 at *
  generalize szD ⟨d1, f1, ss1, d2, f2, ss2, st⟩ left = q1 at *
  have HC1 := hide hc1
  have HC2 := hide hc2
  have HC3 := hide hc3
  clear hc1 hc2 hc3 hL hp hR
  have hka := blk_new w (.cells #[.int .i64 d1, .int .i64 f1, .slice A1 ss1.length c1, .int .i64 d2, .int .i64 f2, .slice A2 ss2.length c2, .slice A3 st.length c3, .slice A4 P.length c4, .slice A5 pp.length c5, .int .i64 m] 31)
  have hb0 : Below w.heap.size w (w.alloc (.cells #[.int .i64 d1, .int .i64 f1, .slice A1 ss1.length c1, .int .i64 d2, .int .i64 f2, .slice A2 ss2.length c2, .slice A3 st.length c3, .slice A4 P.length c4, .slice A5 pp.length c5, .int .i64 m] 31)) := (Below.refl _ _).alloc (Nat.le_refl _) _
  by_cases n1 : q1 < 0
  · rw [if_pos n1]
    go_enter Tryz.func15, Tryz.ntmps15
    go_wp2_with fail
    refine (unhide HC1 _ hb0).mono ?_
    rintro e w1 ⟨rfl, hb1⟩
    have hbw1 : Below w.heap.size w w1 := hb0.trans (hb1.mono hb0.size)
    go_wp2
    go_ret
    exact ⟨rfl, hbw1⟩
  · rw [if_neg n1]
    by_cases n2 : q2 < 0
    · rw [if_pos n2]
      go_enter Tryz.func15, Tryz.ntmps15
      go_wp2_with fail
      refine (unhide HC1 _ hb0).mono ?_
      rintro e w1 ⟨rfl, hb1⟩
      have hbw1 : Below w.heap.size w w1 := hb0.trans (hb1.mono hb0.size)
      obtain ⟨hx0, hx1, hx2, hx3, hx4, hx5, hx6, hx7, hx8, hx9, hxl⟩ := blk10 (blk_next hka hb1)
      go_wp2_with fail
      refine (unhide HC2 _ hbw1).mono ?_
      rintro e w2 ⟨rfl, hb2⟩
      have hbw2 : Below w.heap.size w w2 := hbw1.trans (hb2.mono hbw1.size)
      go_wp2
      go_ret
      exact ⟨rfl, hbw2⟩
    · rw [if_neg n2]
      by_cases n3 : q3 < 0
      · have h3 : q3 = -1 := by omega
        have H3 := Lib.hid h3
        clear h3
        go_enter Tryz.func15, Tryz.ntmps15
        go_wp2_with fail
        refine (unhide HC1 _ hb0).mono ?_
        rintro e w1 ⟨rfl, hb1⟩
        have hbw1 : Below w.heap.size w w1 := hb0.trans (hb1.mono hb0.size)
        obtain ⟨hx0, hx1, hx2, hx3, hx4, hx5, hx6, hx7, hx8, hx9, hxl⟩ := blk10 (blk_next hka hb1)
        go_wp2_with fail
        clear hx0 hx1 hx2 hx3 hx4 hx5 hx6 hx7 hx8 hx9 hxl
        refine (unhide HC2 _ hbw1).mono ?_
        rintro e w2 ⟨rfl, hb2⟩
        have hbw2 : Below w.heap.size w w2 := hbw1.trans (hb2.mono hbw1.size)
        obtain ⟨hy0, hy1, hy2, hy3, hy4, hy5, hy6, hy7, hy8, hy9, hyl⟩ := blk10 (blk_next (blk_next hka hb1) hb2)
        go_wp2_with fail
        refine (unhide HC3 _).mono ?_
        rintro e w3 ⟨rfl, hb3⟩
        have hbw3 : Below w.heap.size w w3 := hbw2.trans (hb3.mono hbw2.size)
        go_wp2
        go_ret
        exact ⟨ret_int H3.out.symm, hbw3⟩
      · go_enter Tryz.func15, Tryz.ntmps15
        go_wp2_with fail
        refine (unhide HC1 _ hb0).mono ?_
        rintro e w1 ⟨rfl, hb1⟩
        have hbw1 : Below w.heap.size w w1 := hb0.trans (hb1.mono hb0.size)
        obtain ⟨hx0, hx1, hx2, hx3, hx4, hx5, hx6, hx7, hx8, hx9, hxl⟩ := blk10 (blk_next hka hb1)
        go_wp2_with fail
        clear hx0 hx1 hx2 hx3 hx4 hx5 hx6 hx7 hx8 hx9 hxl
        refine (unhide HC2 _ hbw1).mono ?_
        rintro e w2 ⟨rfl, hb2⟩
        have hbw2 : Below w.heap.size w w2 := hbw1.trans (hb2.mono hbw1.size)
        obtain ⟨hy0, hy1, hy2, hy3, hy4, hy5, hy6, hy7, hy8, hy9, hyl⟩ := blk10 (blk_next (blk_next hka hb1) hb2)
        go_wp2_with fail
        refine (unhide HC3 _).mono ?_
        rintro e w3 ⟨rfl, hb3⟩
        have hbw3 : Below w.heap.size w w3 := hbw2.trans (hb3.mono hbw2.size)
        go_wp2
        go_ret
        exact ⟨rfl, hbw3⟩
theorem cells_lworkW : Tryz.prog.cellsOf 31 = 10 := by kernel_rfl
theorem cells_litemsW : Tryz.prog.cellsOf 28 = 1 := by kernel_rfl
theorem cells_lpapersW : Tryz.prog.cellsOf 29 = 1 := by kernel_rfl
theorem cells_lpaperW : Tryz.prog.cellsOf 150 = 3 := by kernel_rfl
theorem trod_draftW {H : Type} {enc : TypeId × Value → H} {W : World} {n : Nat} {k0 k1 k2 k3 k4 k5 k6 : Value} {x : DataW H × List MemPlace} (hf' : DataW.trod enc Tryz.prog W 0 (fun _ => true) true n 27 [k0, k1, k2, k3, k4, k5, k6] = some x) :
    ∃ (d1 f1 : Int) (ss1 : List ByteArray) (d2 f2 : Int) (ss2 : List ByteArray) (st : List PStep) (A1 A2 A3 : Option Addr) (c1 c2 c3 : Nat), k0 = .int .i64 d1 ∧ k1 = .int .i64 f1 ∧ k2 = .slice A1 ss1.length c1 ∧ k3 = .int .i64 d2 ∧ k4 = .int .i64 f2 ∧ k5 = .slice A2 ss2.length c2 ∧ k6 = .slice A3 st.length c3 ∧ RawDraft W W.heap.size A1 A2 A3 ⟨d1, f1, ss1, d2, f2, ss2, st⟩ := by
  obtain ⟨m0, y0, h0⟩ := trod_field Tryz.underlying27 hf' 0 _ rfl cells_lcard3
  obtain ⟨m1, y1, h1⟩ := trod_field Tryz.underlying27 hf' 1 _ rfl cells_lcard3
  obtain ⟨m2, y2, h2⟩ := trod_field Tryz.underlying27 hf' 2 _ rfl cells_steps
  obtain ⟨d1, f1, A1, e1, ss1, rfl, rfl, rfl, hR1, hm1, hz1⟩ := trod_card h0
  obtain ⟨d2, f2, A2, e2, ss2, rfl, rfl, rfl, hR2, hm2, hz2⟩ := trod_card h1
  obtain ⟨A3, e3, st, rfl, hR3, hm3, hz3⟩ := trod_steps h2
  unfold maxLen at hm1 hm2 hm3 hz1 hz2 hz3
  exact ⟨d1, f1, ss1, d2, f2, ss2, st, A1, A2, A3, e1, e2, e3, rfl, rfl, rfl, rfl, rfl, rfl, rfl, ⟨hR1, hR2, hR3, hm1, hm2, hm3, hz1, hz2, hz3⟩⟩
theorem trod_itemsW {H : Type} {enc : TypeId × Value → H} {W : World} {n : Nat} {k0 : Value} {x : DataW H × List MemPlace} (hf : DataW.trod enc Tryz.prog W 0 (fun _ => true) true n 28 [k0] = some x) :
    ∃ (A : Option Addr) (c : Nat) (P : List PItem), k0 = .slice A P.length c ∧ ∃ L, plI L = P ∧ RawItems W W.heap.size A L := by
  obtain ⟨A, n, c, l, hcs, hR, hl, hm, hq⟩ := reads_rows (α := RItem) (f := itemCells) (Q := fun r => Reads W W.heap.size 1 r.A r.x.ss.length (r.x.ss.map Value.string) ∧ r.x.ss.length ≤ 9223372036854775807 ∧ (∀ s ∈ r.x.ss, s.size ≤ 9223372036854775807) ∧ r.x.nm.size ≤ 9223372036854775807) itemCells_len (by omega) Tryz.underlying28 cells_litem hf (fun n cs' y hcl ht => by
    match cs', hcl with
    | [c0, c1, c2, c3], _ =>
      obtain ⟨nm, d, f, A, c, ss, rfl, rfl, rfl, rfl, hR, hm, hs, hnm⟩ := trod_item ht
      exact ⟨⟨⟨nm, d, f, ss⟩, A, c⟩, rfl, hR, hm, hs, hnm⟩)
  subst hl
  simp at hcs
  exact ⟨A, c, plI l, by rw [plI_len]; exact hcs, l, rfl, hR, hm, hq⟩
theorem trod_papersW {H : Type} {enc : TypeId × Value → H} {W : World} {n : Nat} {k0 : Value} {x : DataW H × List MemPlace} (hf : DataW.trod enc Tryz.prog W 0 (fun _ => true) true n 29 [k0] = some x) :
    ∃ (A : Option Addr) (c : Nat) (l : List PPaper), k0 = .slice A l.length c ∧ Reads W W.heap.size 3 A l.length (l.flatMap paperCells) ∧ l.length ≤ 9223372036854775807 := by
  obtain ⟨A, n, c, l, hcs, hR, hl, hm, hq⟩ := reads_rows (α := PPaper) (f := paperCells) (Q := fun _ => True) paperCells_len (by omega) Tryz.underlying29 cells_lpaperW hf (fun n cs' y hcl ht => by
    match cs', hcl with
    | [c0, c1, c2], _ =>
      obtain ⟨m0, y0, h0⟩ := trod_field Tryz.underlying150 ht 0 _ rfl cells_int
      obtain ⟨m1, y1, h1⟩ := trod_field Tryz.underlying150 ht 1 _ rfl cells_int
      obtain ⟨m2, y2, h2⟩ := trod_field Tryz.underlying150 ht 2 _ rfl cells_int
      obtain ⟨a, e0, _, _⟩ := DataW.trod_int Tryz.underlying3 h0
      obtain ⟨b, e1, _, _⟩ := DataW.trod_int Tryz.underlying3 h1
      obtain ⟨c, e2, _, _⟩ := DataW.trod_int Tryz.underlying3 h2
      simp at e0 e1 e2
      subst e0 e1 e2
      exact ⟨⟨a, b, c⟩, rfl, trivial⟩)
  subst hl
  simp at hcs
  exact ⟨A, c, l, hcs, hR, hm⟩
theorem open_work {H : Type} {enc : TypeId × Value → H} {W : World} {r : Reach} {b0 : Nat} {v : Value} {d : DataW H} {p : List MemPlace}
    (hv : Value.okWide Tryz.prog W r b0 31 v) (h : DataW.Trod enc Tryz.prog W 0 (fun _ => true) true 31 v d p) :
    ∃ (d1 f1 : Int) (ss1 : List ByteArray) (d2 f2 : Int) (ss2 : List ByteArray) (st : List PStep) (P : List PItem) (pp : List PPaper) (m : Int) (A1 A2 A3 A4 A5 : Option Addr) (c1 c2 c3 c4 c5 : Nat), v = .agg #[.int .i64 d1, .int .i64 f1, .slice A1 ss1.length c1, .int .i64 d2, .int .i64 f2, .slice A2 ss2.length c2, .slice A3 st.length c3, .slice A4 P.length c4, .slice A5 pp.length c5, .int .i64 m] ∧ RawWork W W.heap.size A1 A2 A3 A4 A5 ⟨d1, f1, ss1, d2, f2, ss2, st⟩ P pp := by
  obtain ⟨cs, rfl, hsz⟩ := okWide_struct Tryz.underlying31 hv
  obtain ⟨k0, k1, k2, k3, k4, k5, k6, k7, k8, k9, rfl⟩ : ∃ k0 k1 k2 k3 k4 k5 k6 k7 k8 k9, cs = #[k0, k1, k2, k3, k4, k5, k6, k7, k8, k9] := by
    have hsz2 := hsz.trans cells_lworkW
    obtain ⟨l⟩ := cs
    match l, hsz2 with
    | [k0, k1, k2, k3, k4, k5, k6, k7, k8, k9], _ => exact ⟨k0, k1, k2, k3, k4, k5, k6, k7, k8, k9, rfl⟩
  obtain ⟨fuel, hf⟩ := h
  have hf' : DataW.trod enc Tryz.prog W 0 (fun _ => true) true fuel 31 [k0, k1, k2, k3, k4, k5, k6, k7, k8, k9] = some (d, p) := by simpa [Value.cells] using hf
  obtain ⟨m0, y0, h0⟩ := trod_field Tryz.underlying31 hf' 0 _ rfl cells_ldraft
  obtain ⟨m1, y1, h1⟩ := trod_field Tryz.underlying31 hf' 1 _ rfl cells_litemsW
  obtain ⟨m2, y2, h2⟩ := trod_field Tryz.underlying31 hf' 2 _ rfl cells_lpapersW
  obtain ⟨m3, y3, h3⟩ := trod_field Tryz.underlying31 hf' 3 _ rfl cells_int
  obtain ⟨d1, f1, ss1, d2, f2, ss2, st, A1, A2, A3, e1, e2, e3, rfl, rfl, rfl, rfl, rfl, rfl, rfl, hD⟩ := trod_draftW h0
  obtain ⟨A4, e4, P, rfl, hI⟩ := trod_itemsW h1
  obtain ⟨A5, e5, pp, rfl, hP, hPn⟩ := trod_papersW h2
  obtain ⟨m, e9, _, _⟩ := DataW.trod_int Tryz.underlying3 h3
  simp at e9
  subst e9
  exact ⟨d1, f1, ss1, d2, f2, ss2, st, P, pp, m, A1, A2, A3, A4, A5, e1, e2, e3, e4, e5, rfl, ⟨hD, hI, hP, hPn⟩⟩
end Go.Proofs.YtdddglihomchfaaGreat
