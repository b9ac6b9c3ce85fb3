/- Contracts of the program's and the reference's functions (Work1, Work2, Work3, WPlain, Work4). -/
import Derived.Deep.RegionHeld3
import Derived.Deep.RegionLaw
import Derived.Test.YtdddglihomchfaaGreatRows
import Derived.Test.YtdddglihomchfaaGreatQCm
import Derived.Test.YtdddglihomchfaaGreatQCf
import Derived.Test.YtdddglihomchfaaGreatQCk
import Derived.Test.YtdddglihomchfaaGreatQCj
import Derived.Test.YtdddglihomchfaaGreatQCi
import Derived.Test.YtdddglihomchfaaGreatQCl
namespace Go.Proofs.YtdddglihomchfaaGreat
open Go.ChangeShapes Go.WideShapes Go.ChangeAt Go.RowKit
set_option linter.unusedVariables false
set_option linter.unusedSimpArgs false
set_option maxRecDepth 10000
structure PWork where
  (D : PDraft) (P : List PItem) (pp : List PPaper) (m : Int)
def workOk (W : PWork) : Bool := draftOk W.D && (catOk W.P && (decide (W.pp.length ≤ 20) && (papOk W.pp && inB W.m 0 1000000)))
theorem workOk_iff {W : PWork} : workOk W = true ↔ draftOk W.D = true ∧ catOk W.P = true ∧ W.pp.length ≤ 20 ∧ papOk W.pp = true ∧ 0 ≤ W.m ∧ W.m ≤ 1000000 := by
  unfold workOk
  simp only [Bool.and_eq_true, decide_eq_true_eq, inB_iff']
theorem workOk_no1 {W : PWork} (h : draftOk W.D = false) : workOk W = false := by unfold workOk; rw [h]; rfl
theorem workOk_no2 {W : PWork} (h : catOk W.P = false) : workOk W = false := by unfold workOk; rw [h]; simp
theorem workOk_no3 {W : PWork} (h : ¬ W.pp.length ≤ 20) : workOk W = false := by unfold workOk; rw [decide_eq_false h]; simp
theorem workOk_no4 {W : PWork} (h : papOk W.pp = false) : workOk W = false := by unfold workOk; rw [h]; simp
theorem workOk_yes {W : PWork} (h1 : draftOk W.D = true) (h2 : catOk W.P = true) (h3 : W.pp.length ≤ 20) (h4 : papOk W.pp = true) : workOk W = inB W.m 0 1000000 := by unfold workOk; rw [h1, h2, h4, decide_eq_true h3]; rfl
set_option maxHeartbeats 3200000 in
theorem i_WorkshopOk (d1 f1 : Int) (ss1 : List ByteArray) (d2 f2 : Int) (ss2 : List ByteArray) (st : List PStep) (P : List PItem) (pp : List PPaper) (m : Int) (B : Nat) (A1 A2 A3 A4 A5 : Option Addr) (c1 c2 c3 c4 c5 : Nat) (w : World) (hS : RdWork w B A1 A2 A3 A4 c4 A5 ⟨d1, f1, ss1, d2, f2, ss2, st⟩ P pp) (hB : B ≤ w.heap.size) :
    Calls Tryz.prog 18 #[.agg #[.int .i64 d1, .int .i64 f1, .slice A1 ss1.length c1, .int .i64 d2, .int .i64 f2, .slice A2 ss2.length c2, .slice A3 st.length c3, .slice A4 P.length c4, .slice A5 pp.length c5, .int .i64 m]] w fun e w' => e = .returned (.bool (workOk ⟨⟨d1, f1, ss1, d2, f2, ss2, st⟩, P, pp, m⟩)) ∧ Below w.heap.size w w' := by
  have hS2 := hS.alloc hB (.cells #[.int .i64 d1, .int .i64 f1, .slice A1 ss1.length c1, .int .i64 d2, .int .i64 f2, .slice A2 ss2.length c2, .slice A3 st.length c3, .slice A4 P.length c4, .slice A5 pp.length c5, .int .i64 m] 41)
  have hka := blk_new w (.cells #[.int .i64 d1, .int .i64 f1, .slice A1 ss1.length c1, .int .i64 d2, .int .i64 f2, .slice A2 ss2.length c2, .slice A3 st.length c3, .slice A4 P.length c4, .slice A5 pp.length c5, .int .i64 m] 41)
  obtain ⟨L, hpl, hL⟩ := hS.i
  have HPL := Lib.hid hpl
  have hpn := hS.p.nb
  clear hpl
  cases h1 : draftOk ⟨d1, f1, ss1, d2, f2, ss2, st⟩
  · have HR := Lib.hid (workOk_no1 (W := (PWork.mk ⟨d1, f1, ss1, d2, f2, ss2, st⟩ P pp m)) h1)
    have H1 := Lib.hid h1
    clear h1
    go_enter Tryz.func18, Tryz.ntmps18
    go_wp2_with (first | (go_at_call 69; refine (i_DraftOk ⟨d1, f1, ss1, d2, f2, ss2, st⟩ B A1 A2 A3 c1 c2 c3 _ (hS2.d) (by simp; omega)).mono ?_; rw [H1.out]; rintro e w1 ⟨rfl, hb1⟩; (have hbw1 : Below w.heap.size w w1 := ((Below.refl _ _).alloc (Nat.le_refl _) _).trans (hb1.mono (by simp))); (have hk1 := blk_next hka hb1); obtain ⟨hx0, hx1, hx2, hx3, hx4, hx5, hx6, hx7, hx8, hx9, hxl⟩ := blk10 hk1))
    go_ret
    exact ⟨ret_bool HR.out.symm, hbw1⟩
  · cases h2 : catOk P
    · have HR := Lib.hid (workOk_no2 (W := (PWork.mk ⟨d1, f1, ss1, d2, f2, ss2, st⟩ P pp m)) h2)
      have H1 := Lib.hid h1
      have H2 := Lib.hid h2
      clear h1 h2
      go_enter Tryz.func18, Tryz.ntmps18
      go_wp2_with (first | (go_at_call 69; refine (i_DraftOk ⟨d1, f1, ss1, d2, f2, ss2, st⟩ B A1 A2 A3 c1 c2 c3 _ (hS2.d) (by simp; omega)).mono ?_; rw [H1.out]; rintro e w1 ⟨rfl, hb1⟩; (have hbw1 : Below w.heap.size w w1 := ((Below.refl _ _).alloc (Nat.le_refl _) _).trans (hb1.mono (by simp))); (have hk1 := blk_next hka hb1); obtain ⟨hx0, hx1, hx2, hx3, hx4, hx5, hx6, hx7, hx8, hx9, hxl⟩ := blk10 hk1) | (go_at_call 70; refine (i_CatalogOk P B A4 P.length c4 L _ HPL.out (hL.below (hbw1.mono hB)) (Nat.le_trans hB hbw1.size)).mono ?_; rw [H2.out]; rintro e w2 ⟨rfl, hb2⟩; (have hbw2 : Below w.heap.size w w2 := hbw1.trans (hb2.mono hbw1.size)); (have hk2 := blk_next hk1 hb2); clear hx0 hx1 hx2 hx3 hx4 hx5 hx6 hx7 hx8 hx9 hxl; obtain ⟨hx0, hx1, hx2, hx3, hx4, hx5, hx6, hx7, hx8, hx9, hxl⟩ := blk10 hk2))
      go_ret
      exact ⟨ret_bool HR.out.symm, hbw2⟩
    · by_cases h3 : pp.length ≤ 20
      · cases h4 : papOk pp
        · have hi3 : (pp.length : Int) ≤ 20 := by omega
          have HR := Lib.hid (workOk_no4 (W := (PWork.mk ⟨d1, f1, ss1, d2, f2, ss2, st⟩ P pp m)) h4)
          have H1 := Lib.hid h1
          have H2 := Lib.hid h2
          have H4 := Lib.hid h4
          clear h1 h2 h4
          go_enter Tryz.func18, Tryz.ntmps18
          go_wp2_with (first | (go_at_call 69; refine (i_DraftOk ⟨d1, f1, ss1, d2, f2, ss2, st⟩ B A1 A2 A3 c1 c2 c3 _ (hS2.d) (by simp; omega)).mono ?_; rw [H1.out]; rintro e w1 ⟨rfl, hb1⟩; (have hbw1 : Below w.heap.size w w1 := ((Below.refl _ _).alloc (Nat.le_refl _) _).trans (hb1.mono (by simp))); (have hk1 := blk_next hka hb1); obtain ⟨hx0, hx1, hx2, hx3, hx4, hx5, hx6, hx7, hx8, hx9, hxl⟩ := blk10 hk1) | (go_at_call 70; refine (i_CatalogOk P B A4 P.length c4 L _ HPL.out (hL.below (hbw1.mono hB)) (Nat.le_trans hB hbw1.size)).mono ?_; rw [H2.out]; rintro e w2 ⟨rfl, hb2⟩; (have hbw2 : Below w.heap.size w w2 := hbw1.trans (hb2.mono hbw1.size)); (have hk2 := blk_next hk1 hb2); clear hx0 hx1 hx2 hx3 hx4 hx5 hx6 hx7 hx8 hx9 hxl; obtain ⟨hx0, hx1, hx2, hx3, hx4, hx5, hx6, hx7, hx8, hx9, hxl⟩ := blk10 hk2) | (go_at_call 71; refine (i_arePapers pp B A5 pp.length c5 _ (hS.p.below (hbw2.mono hB)) (Nat.le_trans hB hbw2.size)).mono ?_; rw [H4.out]; rintro e w3 ⟨rfl, hb3⟩; (have hbw3 : Below w.heap.size w w3 := hbw2.trans (hb3.mono hbw2.size)); (have hk3 := blk_next hk2 hb3); clear hx0 hx1 hx2 hx3 hx4 hx5 hx6 hx7 hx8 hx9 hxl; obtain ⟨hx0, hx1, hx2, hx3, hx4, hx5, hx6, hx7, hx8, hx9, hxl⟩ := blk10 hk3))
          go_ret
          exact ⟨ret_bool HR.out.symm, hbw3⟩
        · have hi3 : (pp.length : Int) ≤ 20 := by omega
          have HR := Lib.hid (workOk_yes (W := (PWork.mk ⟨d1, f1, ss1, d2, f2, ss2, st⟩ P pp m)) h1 h2 h3 h4)
          have H1 := Lib.hid h1
          have H2 := Lib.hid h2
          have H4 := Lib.hid h4
          clear h1 h2 h4
          go_enter Tryz.func18, Tryz.ntmps18
          go_wp2_with (first | (go_at_call 69; refine (i_DraftOk ⟨d1, f1, ss1, d2, f2, ss2, st⟩ B A1 A2 A3 c1 c2 c3 _ (hS2.d) (by simp; omega)).mono ?_; rw [H1.out]; rintro e w1 ⟨rfl, hb1⟩; (have hbw1 : Below w.heap.size w w1 := ((Below.refl _ _).alloc (Nat.le_refl _) _).trans (hb1.mono (by simp))); (have hk1 := blk_next hka hb1); obtain ⟨hx0, hx1, hx2, hx3, hx4, hx5, hx6, hx7, hx8, hx9, hxl⟩ := blk10 hk1) | (go_at_call 70; refine (i_CatalogOk P B A4 P.length c4 L _ HPL.out (hL.below (hbw1.mono hB)) (Nat.le_trans hB hbw1.size)).mono ?_; rw [H2.out]; rintro e w2 ⟨rfl, hb2⟩; (have hbw2 : Below w.heap.size w w2 := hbw1.trans (hb2.mono hbw1.size)); (have hk2 := blk_next hk1 hb2); clear hx0 hx1 hx2 hx3 hx4 hx5 hx6 hx7 hx8 hx9 hxl; obtain ⟨hx0, hx1, hx2, hx3, hx4, hx5, hx6, hx7, hx8, hx9, hxl⟩ := blk10 hk2) | (go_at_call 71; refine (i_arePapers pp B A5 pp.length c5 _ (hS.p.below (hbw2.mono hB)) (Nat.le_trans hB hbw2.size)).mono ?_; rw [H4.out]; rintro e w3 ⟨rfl, hb3⟩; (have hbw3 : Below w.heap.size w w3 := hbw2.trans (hb3.mono hbw2.size)); (have hk3 := blk_next hk2 hb3); clear hx0 hx1 hx2 hx3 hx4 hx5 hx6 hx7 hx8 hx9 hxl; obtain ⟨hx0, hx1, hx2, hx3, hx4, hx5, hx6, hx7, hx8, hx9, hxl⟩ := blk10 hk3) | (go_at_call 72; refine (i_within _ _ _ _).mono ?_; rintro e w' ⟨rfl, rfl⟩))
          go_ret
          exact ⟨ret_bool HR.out.symm, hbw3⟩
      · have hi3 : ¬ (pp.length : Int) ≤ 20 := by omega
        have HR := Lib.hid (workOk_no3 (W := (PWork.mk ⟨d1, f1, ss1, d2, f2, ss2, st⟩ P pp m)) h3)
        have H1 := Lib.hid h1
        have H2 := Lib.hid h2
        clear h1 h2
        go_enter Tryz.func18, Tryz.ntmps18
        go_wp2_with (first | (go_at_call 69; refine (i_DraftOk ⟨d1, f1, ss1, d2, f2, ss2, st⟩ B A1 A2 A3 c1 c2 c3 _ (hS2.d) (by simp; omega)).mono ?_; rw [H1.out]; rintro e w1 ⟨rfl, hb1⟩; (have hbw1 : Below w.heap.size w w1 := ((Below.refl _ _).alloc (Nat.le_refl _) _).trans (hb1.mono (by simp))); (have hk1 := blk_next hka hb1); obtain ⟨hx0, hx1, hx2, hx3, hx4, hx5, hx6, hx7, hx8, hx9, hxl⟩ := blk10 hk1) | (go_at_call 70; refine (i_CatalogOk P B A4 P.length c4 L _ HPL.out (hL.below (hbw1.mono hB)) (Nat.le_trans hB hbw1.size)).mono ?_; rw [H2.out]; rintro e w2 ⟨rfl, hb2⟩; (have hbw2 : Below w.heap.size w w2 := hbw1.trans (hb2.mono hbw1.size)); (have hk2 := blk_next hk1 hb2); clear hx0 hx1 hx2 hx3 hx4 hx5 hx6 hx7 hx8 hx9 hxl; obtain ⟨hx0, hx1, hx2, hx3, hx4, hx5, hx6, hx7, hx8, hx9, hxl⟩ := blk10 hk2))
        go_ret
        exact ⟨ret_bool HR.out.symm, hbw2⟩
set_option maxHeartbeats 3200000 in
theorem s_WorkshopOk (d1 f1 : Int) (ss1 : List ByteArray) (d2 f2 : Int) (ss2 : List ByteArray) (st : List PStep) (P : List PItem) (pp : List PPaper) (m : Int) (B : Nat) (A1 A2 A3 A4 A5 : Option Addr) (c1 c2 c3 c4 c5 : Nat) (w : World) (hS : RdWork w B A1 A2 A3 A4 c4 A5 ⟨d1, f1, ss1, d2, f2, ss2, st⟩ P pp) (hB : B ≤ w.heap.size) :
    Calls Tryz.prog 16 #[.agg #[.int .i64 d1, .int .i64 f1, .slice A1 ss1.length c1, .int .i64 d2, .int .i64 f2, .slice A2 ss2.length c2, .slice A3 st.length c3, .slice A4 P.length c4, .slice A5 pp.length c5, .int .i64 m]] w fun e w' => e = .returned (.bool (workOk ⟨⟨d1, f1, ss1, d2, f2, ss2, st⟩, P, pp, m⟩)) ∧ Below w.heap.size w w' := by
  have hS2 := hS.alloc hB (.cells #[.int .i64 d1, .int .i64 f1, .slice A1 ss1.length c1, .int .i64 d2, .int .i64 f2, .slice A2 ss2.length c2, .slice A3 st.length c3, .slice A4 P.length c4, .slice A5 pp.length c5, .int .i64 m] 41)
  have hka := blk_new w (.cells #[.int .i64 d1, .int .i64 f1, .slice A1 ss1.length c1, .int .i64 d2, .int .i64 f2, .slice A2 ss2.length c2, .slice A3 st.length c3, .slice A4 P.length c4, .slice A5 pp.length c5, .int .i64 m] 41)
  obtain ⟨L, hpl, hL⟩ := hS.i
  have HPL := Lib.hid hpl
  have hpn := hS.p.nb
  clear hpl
  cases h1 : draftOk ⟨d1, f1, ss1, d2, f2, ss2, st⟩
  · have HR := Lib.hid (workOk_no1 (W := (PWork.mk ⟨d1, f1, ss1, d2, f2, ss2, st⟩ P pp m)) h1)
    have H1 := Lib.hid h1
    clear h1
    go_enter Tryz.func16, Tryz.ntmps16
    go_wp2_with (first | (go_at_call 62; refine (s_DraftOk ⟨d1, f1, ss1, d2, f2, ss2, st⟩ B A1 A2 A3 c1 c2 c3 _ (hS2.d) (by simp; omega)).mono ?_; rw [H1.out]; rintro e w1 ⟨rfl, hb1⟩; (have hbw1 : Below w.heap.size w w1 := ((Below.refl _ _).alloc (Nat.le_refl _) _).trans (hb1.mono (by simp))); (have hk1 := blk_next hka hb1); obtain ⟨hx0, hx1, hx2, hx3, hx4, hx5, hx6, hx7, hx8, hx9, hxl⟩ := blk10 hk1))
    go_ret
    exact ⟨ret_bool HR.out.symm, hbw1⟩
  · cases h2 : catOk P
    · have HR := Lib.hid (workOk_no2 (W := (PWork.mk ⟨d1, f1, ss1, d2, f2, ss2, st⟩ P pp m)) h2)
      have H1 := Lib.hid h1
      have H2 := Lib.hid h2
      clear h1 h2
      go_enter Tryz.func16, Tryz.ntmps16
      go_wp2_with (first | (go_at_call 62; refine (s_DraftOk ⟨d1, f1, ss1, d2, f2, ss2, st⟩ B A1 A2 A3 c1 c2 c3 _ (hS2.d) (by simp; omega)).mono ?_; rw [H1.out]; rintro e w1 ⟨rfl, hb1⟩; (have hbw1 : Below w.heap.size w w1 := ((Below.refl _ _).alloc (Nat.le_refl _) _).trans (hb1.mono (by simp))); (have hk1 := blk_next hka hb1); obtain ⟨hx0, hx1, hx2, hx3, hx4, hx5, hx6, hx7, hx8, hx9, hxl⟩ := blk10 hk1) | (go_at_call 63; refine (s_CatalogOk P B A4 P.length c4 L _ HPL.out (hL.below (hbw1.mono hB)) (Nat.le_trans hB hbw1.size)).mono ?_; rw [H2.out]; rintro e w2 ⟨rfl, hb2⟩; (have hbw2 : Below w.heap.size w w2 := hbw1.trans (hb2.mono hbw1.size)); (have hk2 := blk_next hk1 hb2); clear hx0 hx1 hx2 hx3 hx4 hx5 hx6 hx7 hx8 hx9 hxl; obtain ⟨hx0, hx1, hx2, hx3, hx4, hx5, hx6, hx7, hx8, hx9, hxl⟩ := blk10 hk2))
      go_ret
      exact ⟨ret_bool HR.out.symm, hbw2⟩
    · cases h4 : papOk pp
      · have HR := Lib.hid (workOk_no4 (W := (PWork.mk ⟨d1, f1, ss1, d2, f2, ss2, st⟩ P pp m)) h4)
        have H1 := Lib.hid h1
        have H2 := Lib.hid h2
        have H4 := Lib.hid h4
        clear h1 h2 h4
        go_enter Tryz.func16, Tryz.ntmps16
        go_wp2_with (first | (go_at_call 62; refine (s_DraftOk ⟨d1, f1, ss1, d2, f2, ss2, st⟩ B A1 A2 A3 c1 c2 c3 _ (hS2.d) (by simp; omega)).mono ?_; rw [H1.out]; rintro e w1 ⟨rfl, hb1⟩; (have hbw1 : Below w.heap.size w w1 := ((Below.refl _ _).alloc (Nat.le_refl _) _).trans (hb1.mono (by simp))); (have hk1 := blk_next hka hb1); obtain ⟨hx0, hx1, hx2, hx3, hx4, hx5, hx6, hx7, hx8, hx9, hxl⟩ := blk10 hk1) | (go_at_call 63; refine (s_CatalogOk P B A4 P.length c4 L _ HPL.out (hL.below (hbw1.mono hB)) (Nat.le_trans hB hbw1.size)).mono ?_; rw [H2.out]; rintro e w2 ⟨rfl, hb2⟩; (have hbw2 : Below w.heap.size w w2 := hbw1.trans (hb2.mono hbw1.size)); (have hk2 := blk_next hk1 hb2); clear hx0 hx1 hx2 hx3 hx4 hx5 hx6 hx7 hx8 hx9 hxl; obtain ⟨hx0, hx1, hx2, hx3, hx4, hx5, hx6, hx7, hx8, hx9, hxl⟩ := blk10 hk2) | (go_at_call 64; refine (s_l23Ok pp B A5 pp.length c5 _ (hS.p.below (hbw2.mono hB)) (Nat.le_trans hB hbw2.size)).mono ?_; rw [H4.out]; rintro e w3 ⟨rfl, hb3⟩; (have hbw3 : Below w.heap.size w w3 := hbw2.trans (hb3.mono hbw2.size)); (have hk3 := blk_next hk2 hb3); clear hx0 hx1 hx2 hx3 hx4 hx5 hx6 hx7 hx8 hx9 hxl; obtain ⟨hx0, hx1, hx2, hx3, hx4, hx5, hx6, hx7, hx8, hx9, hxl⟩ := blk10 hk3))
        go_ret
        exact ⟨ret_bool HR.out.symm, hbw3⟩
      · by_cases h3 : pp.length ≤ 20
        · have hi3 : (pp.length : Int) ≤ 20 := by omega
          have HR := Lib.hid (workOk_yes (W := (PWork.mk ⟨d1, f1, ss1, d2, f2, ss2, st⟩ P pp m)) h1 h2 h3 h4)
          have H1 := Lib.hid h1
          have H2 := Lib.hid h2
          have H4 := Lib.hid h4
          clear h1 h2 h4
          go_enter Tryz.func16, Tryz.ntmps16
          go_wp2_with (first | (go_at_call 62; refine (s_DraftOk ⟨d1, f1, ss1, d2, f2, ss2, st⟩ B A1 A2 A3 c1 c2 c3 _ (hS2.d) (by simp; omega)).mono ?_; rw [H1.out]; rintro e w1 ⟨rfl, hb1⟩; (have hbw1 : Below w.heap.size w w1 := ((Below.refl _ _).alloc (Nat.le_refl _) _).trans (hb1.mono (by simp))); (have hk1 := blk_next hka hb1); obtain ⟨hx0, hx1, hx2, hx3, hx4, hx5, hx6, hx7, hx8, hx9, hxl⟩ := blk10 hk1) | (go_at_call 63; refine (s_CatalogOk P B A4 P.length c4 L _ HPL.out (hL.below (hbw1.mono hB)) (Nat.le_trans hB hbw1.size)).mono ?_; rw [H2.out]; rintro e w2 ⟨rfl, hb2⟩; (have hbw2 : Below w.heap.size w w2 := hbw1.trans (hb2.mono hbw1.size)); (have hk2 := blk_next hk1 hb2); clear hx0 hx1 hx2 hx3 hx4 hx5 hx6 hx7 hx8 hx9 hxl; obtain ⟨hx0, hx1, hx2, hx3, hx4, hx5, hx6, hx7, hx8, hx9, hxl⟩ := blk10 hk2) | (go_at_call 64; refine (s_l23Ok pp B A5 pp.length c5 _ (hS.p.below (hbw2.mono hB)) (Nat.le_trans hB hbw2.size)).mono ?_; rw [H4.out]; rintro e w3 ⟨rfl, hb3⟩; (have hbw3 : Below w.heap.size w w3 := hbw2.trans (hb3.mono hbw2.size)); (have hk3 := blk_next hk2 hb3); clear hx0 hx1 hx2 hx3 hx4 hx5 hx6 hx7 hx8 hx9 hxl; obtain ⟨hx0, hx1, hx2, hx3, hx4, hx5, hx6, hx7, hx8, hx9, hxl⟩ := blk10 hk3) | (go_at_call 65; refine (s_l01In _ _ _ _).mono ?_; rintro e w' ⟨rfl, rfl⟩))
          go_ret
          exact ⟨ret_bool HR.out.symm, hbw3⟩
        · have hi3 : ¬ (pp.length : Int) ≤ 20 := by omega
          have HR := Lib.hid (workOk_no3 (W := (PWork.mk ⟨d1, f1, ss1, d2, f2, ss2, st⟩ P pp m)) h3)
          have H1 := Lib.hid h1
          have H2 := Lib.hid h2
          have H4 := Lib.hid h4
          clear h1 h2 h4
          go_enter Tryz.func16, Tryz.ntmps16
          go_wp2_with (first | (go_at_call 62; refine (s_DraftOk ⟨d1, f1, ss1, d2, f2, ss2, st⟩ B A1 A2 A3 c1 c2 c3 _ (hS2.d) (by simp; omega)).mono ?_; rw [H1.out]; rintro e w1 ⟨rfl, hb1⟩; (have hbw1 : Below w.heap.size w w1 := ((Below.refl _ _).alloc (Nat.le_refl _) _).trans (hb1.mono (by simp))); (have hk1 := blk_next hka hb1); obtain ⟨hx0, hx1, hx2, hx3, hx4, hx5, hx6, hx7, hx8, hx9, hxl⟩ := blk10 hk1) | (go_at_call 63; refine (s_CatalogOk P B A4 P.length c4 L _ HPL.out (hL.below (hbw1.mono hB)) (Nat.le_trans hB hbw1.size)).mono ?_; rw [H2.out]; rintro e w2 ⟨rfl, hb2⟩; (have hbw2 : Below w.heap.size w w2 := hbw1.trans (hb2.mono hbw1.size)); (have hk2 := blk_next hk1 hb2); clear hx0 hx1 hx2 hx3 hx4 hx5 hx6 hx7 hx8 hx9 hxl; obtain ⟨hx0, hx1, hx2, hx3, hx4, hx5, hx6, hx7, hx8, hx9, hxl⟩ := blk10 hk2) | (go_at_call 64; refine (s_l23Ok pp B A5 pp.length c5 _ (hS.p.below (hbw2.mono hB)) (Nat.le_trans hB hbw2.size)).mono ?_; rw [H4.out]; rintro e w3 ⟨rfl, hb3⟩; (have hbw3 : Below w.heap.size w w3 := hbw2.trans (hb3.mono hbw2.size)); (have hk3 := blk_next hk2 hb3); clear hx0 hx1 hx2 hx3 hx4 hx5 hx6 hx7 hx8 hx9 hxl; obtain ⟨hx0, hx1, hx2, hx3, hx4, hx5, hx6, hx7, hx8, hx9, hxl⟩ := blk10 hk3))
          go_ret
          exact ⟨ret_bool HR.out.symm, hbw3⟩
end Go.Proofs.YtdddglihomchfaaGreat
namespace Go.Proofs.YtdddglihomchfaaGreat
open Go.ChangeShapes Go.WideShapes Go.ChangeAt Go.RowKit
set_option linter.unusedVariables false
set_option linter.unusedSimpArgs false
set_option maxRecDepth 10000
theorem OwnS.grownP {w w' : World} {lo hi b n : Nat} {A : Option Addr} {c : Nat} {ss : List ByteArray} {v : Value} {xs : List Value} (ho : OwnS w lo hi A c ss) (hp : w.ownsRow b 118 3 v n xs) (hg : w.grownBy w' v.ownBlock) : OwnS w' lo hi A c ss :=
  ⟨own_grown ho.row hg (fun k hk he => own_ne_type ho.row hp (by decide) k hk he), ho.top⟩
theorem OwnSt.grownP {w w' : World} {lo hi b n : Nat} {A : Option Addr} {c : Nat} {st : List PStep} {v : Value} {xs : List Value} (ho : OwnSt w lo hi A c st) (hp : w.ownsRow b 118 3 v n xs) (hg : w.grownBy w' v.ownBlock) : OwnSt w' lo hi A c st :=
  ⟨own_grown ho.row hg (fun k hk he => own_ne_type ho.row hp (by decide) k hk he), ho.top⟩
theorem OwnD.grownP {w w' : World} {lo hi b n : Nat} {A1 A2 A3 : Option Addr} {c1 c2 c3 : Nat} {D : PDraft} {v : Value} {xs : List Value} (ho : OwnD w lo hi A1 c1 A2 c2 A3 c3 D) (hp : w.ownsRow b 118 3 v n xs) (hg : w.grownBy w' v.ownBlock) : OwnD w' lo hi A1 c1 A2 c2 A3 c3 D := ⟨ho.o1.grownP hp hg, ho.o2.grownP hp hg, ho.o3.grownP hp hg, ho.ne⟩
theorem OwnItems.grownP {w w' : World} {lo hi b n N c : Nat} {A : Option Addr} {L : List RItem} {v : Value} {xs : List Value} (ho : OwnItems w lo hi A N c L) (hp : w.ownsRow b 118 3 v n xs) (hg : w.grownBy w' v.ownBlock) : OwnItems w' lo hi A N c L :=
  ⟨own_grown ho.row hg (fun k hk he => own_ne_type ho.row hp (by decide) k hk he), ho.top, fun r hr => (ho.in_ r hr).grownP hp hg, ho.apart⟩
set_option maxHeartbeats 6400000 in
theorem i_workCopied (d1 f1 : Int) (ss1 : List ByteArray) (d2 f2 : Int) (ss2 : List ByteArray) (st : List PStep) (P : List PItem) (pp : List PPaper) (m : Int) (B : Nat) (A1 A2 A3 A4 A5 : Option Addr) (c1 c2 c3 c4 c5 : Nat) (w : World) (hS : RdWork w B A1 A2 A3 A4 c4 A5 ⟨d1, f1, ss1, d2, f2, ss2, st⟩ P pp) (hB : B ≤ w.heap.size) :
    Calls Tryz.prog 91 #[.agg #[.int .i64 d1, .int .i64 f1, .slice A1 ss1.length c1, .int .i64 d2, .int .i64 f2, .slice A2 ss2.length c2, .slice A3 st.length c3, .slice A4 P.length c4, .slice A5 pp.length c5, .int .i64 m]] w (UWork d1 f1 ss1 d2 f2 ss2 st P pp m w) := by
  obtain ⟨L, hpl, hL⟩ := hS.i
  have HPL := Lib.hid hpl
  have hpn := hS.p.nb
  clear hpl
  go_enter Tryz.func91, Tryz.ntmps91
  go_wp2
  have hbW : Below w.heap.size w ((w.alloc (.cells #[.int .i64 d1, .int .i64 f1, .slice A1 ss1.length c1, .int .i64 d2, .int .i64 f2, .slice A2 ss2.length c2, .slice A3 st.length c3, .slice A4 P.length c4, .slice A5 pp.length c5, .int .i64 m] 41)).alloc (.cells #[.int .i64 0, .int .i64 0, .slice none 0 0, .int .i64 0, .int .i64 0, .slice none 0 0, .slice none 0 0, .slice none 0 0, .slice none 0 0, .int .i64 0] 41)) := bel
  have hk1 := box_first w (.cells #[.int .i64 d1, .int .i64 f1, .slice A1 ss1.length c1, .int .i64 d2, .int .i64 f2, .slice A2 ss2.length c2, .slice A3 st.length c3, .slice A4 P.length c4, .slice A5 pp.length c5, .int .i64 m] 41) (.cells #[.int .i64 0, .int .i64 0, .slice none 0 0, .int .i64 0, .int .i64 0, .slice none 0 0, .slice none 0 0, .slice none 0 0, .slice none 0 0, .int .i64 0] 41)
  have hk2 := box_second w (.cells #[.int .i64 d1, .int .i64 f1, .slice A1 ss1.length c1, .int .i64 d2, .int .i64 f2, .slice A2 ss2.length c2, .slice A3 st.length c3, .slice A4 P.length c4, .slice A5 pp.length c5, .int .i64 m] 41) (.cells #[.int .i64 0, .int .i64 0, .slice none 0 0, .int .i64 0, .int .i64 0, .slice none 0 0, .slice none 0 0, .slice none 0 0, .slice none 0 0, .int .i64 0] 41)
  generalize ((w.alloc (.cells #[.int .i64 d1, .int .i64 f1, .slice A1 ss1.length c1, .int .i64 d2, .int .i64 f2, .slice A2 ss2.length c2, .slice A3 st.length c3, .slice A4 P.length c4, .slice A5 pp.length c5, .int .i64 m] 41)).alloc (.cells #[.int .i64 0, .int .i64 0, .slice none 0 0, .int .i64 0, .int .i64 0, .slice none 0 0, .slice none 0 0, .slice none 0 0, .slice none 0 0, .int .i64 0] 41)) = w0 at *
  have hzw := hbW.size
  have hz0_ := blk_lt hk1
  have hz1_ := blk_lt hk2
  obtain ⟨hx0, hx1, hx2, hx3, hx4, hx5, hx6, hx7, hx8, hx9, hxl⟩ := blk10 hk1
  have gD := hS.d.below (hbW.mono hB)
  have gI := hL.below (hbW.mono hB)
  have gP := hS.p.below (hbW.mono hB)
  have hB0 : B ≤ w0.heap.size := by omega
  have hB1 : B ≤ w.heap.size + 1 := by omega
  have hz1q : w.heap.size + 1 ≤ w0.heap.size := by omega
  go_region_held3 (fun W => (∀ b o, b < w.heap.size + 1 → W.cell? ⟨b, o, none⟩ = (w0).cell? ⟨b, o, none⟩) ∧ (∀ b o, b < w.heap.size + 1 → W.frozen? ⟨b, o, none⟩ = (w0).frozen? ⟨b, o, none⟩) ∧ Below (w.heap.size + 1) (w0) W) (exact keep_of bel) (first | (go_at_call 144; have hq := (‹_ ∧ _ ∧ Below _ _ _›).2.2; refine (u_draftCopied d1 f1 ss1 d2 f2 ss2 st B A1 A2 A3 c1 c2 c3 _ (gD.below (hq.mono hB1)) (Nat.le_trans hB0 hq.size)).mono ?_; rintro e w1 ⟨B1, e1, B2, e2, B3, e3, rfl, ho1, hb1⟩; have hqs1 := hq.size; have hbs1 := hb1.size; (try simp at hqs1); (try simp at hbs1); (have hb1X : Below w0.heap.size w0 w1 := (by first | exact hb1 | exact ⟨hb1.os, hb1.tape, hb1.output, hb1.size, hb1.block⟩)); (have ho1X : OwnD w1 w0.heap.size w1.heap.size B1 e1 B2 e2 B3 e3 ⟨d1, f1, ss1, d2, f2, ss2, st⟩ := ho1); (have hkk1 := blk_next hk2 hb1X)) | (go_at_call 145; have hq := (‹_ ∧ _ ∧ Below _ _ _›).2.2; refine (u_copyItems P B A4 P.length c4 L _ HPL.out (gI.below (hq.mono hB1)) (Nat.le_trans hB0 hq.size)).mono ?_; rintro e w2 ⟨B4, e4, L4, rfl, hp4, ho4, hb2⟩; (have HP4 := Lib.hid hp4); clear hp4; have hqs2 := hq.size; have hbs2 := hb2.size; (try simp at hqs2); (try simp at hbs2); (have hb2X : Below w1.heap.size w1 w2 := (by first | exact hb2 | exact ⟨hb2.os, hb2.tape, hb2.output, hb2.size, hb2.block⟩)); (have ho4X : OwnItems w2 w1.heap.size w2.heap.size B4 P.length e4 L4 := ho4); (have ho1Y := ho1X.below hb2X); (have hkk2 := blk_next hkk1 hb2X)) | (go_at_call 146; have hq := (‹_ ∧ _ ∧ Below _ _ _›).2.2; refine (clone_paper B A5 pp.length c5 pp _ (gP.below (hq.mono hB1)) (Nat.le_trans hB0 hq.size)).mono ?_; rintro e w3 ⟨B5, e5, rfl, ho5, hb3⟩; have hqs3 := hq.size; have hbs3 := hb3.size; (try simp at hqs3); (try simp at hbs3); (have hb3X : Below w2.heap.size w2 w3 := (by first | exact hb3 | exact ⟨hb3.os, hb3.tape, hb3.output, hb3.size, hb3.block⟩)); (have ho5X : OwnP w3 w2.heap.size w3.heap.size B5 e5 pp := OwnP.of ho5 (Nat.le_refl _)); (have ho1Z := ho1Y.below hb3X); (have ho4Z := ho4X.below hb3X); (have hkk3 := blk_next hkk2 hb3X); obtain ⟨hv0, hv1, hv2, hv3, hv4, hv5, hv6, hv7, hv8, hv9, hvl⟩ := blk10 hkk3; obtain ⟨⟨hf0, hf1, hf2, hf3, hf4⟩, hf5, hf6, hf7, hf8, hf9⟩ := blk10f hkk3))
  all_goals (
    go_wp2
    have hbx3 : Below w.heap.size w w3 := hbW.trans ((hb1X.mono hzw).trans ((hb2X.mono (Nat.le_trans hzw hb1X.size)).trans (hb3X.mono (Nat.le_trans (Nat.le_trans hzw hb1X.size) hb2X.size))))
    have hs1X := hb1X.size
    have hs2X := hb2X.size
    have hs3X := hb3X.size
    refine bodyPost_ret (v := .agg #[.int .i64 d1, .int .i64 f1, .slice B1 ss1.length e1, .int .i64 d2, .int .i64 f2, .slice B2 ss2.length e2, .slice B3 st.length e3, .slice B4 P.length e4, .slice B5 pp.length e5, .int .i64 m]) (by simp [results, Tryz.results91, go_sem, *]) rfl ?_
    have hbx := boxAt_of hkk3
    have HBX := hide hbx3
    clear hbx3
    refine ⟨B1, e1, B2, e2, B3, e3, B4, e4, B5, e5, rfl, OwnW.mk3 ((OwnDW.of ho1Z).boxy (by repeat (first | (with_reducible exact Boxy.refl _) | (with_reducible refine Boxy.drew ?_) | (with_reducible refine Boxy.drewN ?_ _) | (with_reducible refine Boxy.alloc ?_ _) | ((with_reducible refine Boxy.setCell ?_ ?hbs _); (case hbs => first | (with_reducible exact .inl (by assumption)) | exact .inl (by assumption) | exact .inr (by simp) | exact .inr (by simp; omega)))))) HP4.out (ho4Z.boxy (by repeat (first | (with_reducible exact Boxy.refl _) | (with_reducible refine Boxy.drew ?_) | (with_reducible refine Boxy.drewN ?_ _) | (with_reducible refine Boxy.alloc ?_ _) | ((with_reducible refine Boxy.setCell ?_ ?hbs _); (case hbs => first | (with_reducible exact .inl (by assumption)) | exact .inl (by assumption) | exact .inr (by simp) | exact .inr (by simp; omega)))))) (ho5X.boxy (by repeat (first | (with_reducible exact Boxy.refl _) | (with_reducible refine Boxy.drew ?_) | (with_reducible refine Boxy.drewN ?_ _) | (with_reducible refine Boxy.alloc ?_ _) | ((with_reducible refine Boxy.setCell ?_ ?hbs _); (case hbs => first | (with_reducible exact .inl (by assumption)) | exact .inl (by assumption) | exact .inr (by simp) | exact .inr (by simp; omega)))))) (by simp [World.setCell]; omega) (by omega), ?_⟩
    have hbx3 := unhide HBX
    clear hb1 hb2 hb1X hb2X hb3X
    exact bel)
theorem OwnP.pin {w : World} {lo k c : Nat} {A : Option Addr} {l : List PPaper} (ho : w.ownsRow lo 118 3 (.slice A l.length c) l.length (l.flatMap paperCells)) (h : (Value.slice A l.length c).ownBlock = some k) : OwnP w k (k + 1) A c l :=
  ⟨own_lo ho (fun j hj => by rw [h] at hj; injection hj with hj; omega), fun j hj => by rw [h] at hj; injection hj with hj; omega⟩
set_option maxHeartbeats 6400000 in
theorem s_l38Copy (d1 f1 : Int) (ss1 : List ByteArray) (d2 f2 : Int) (ss2 : List ByteArray) (st : List PStep) (P : List PItem) (pp : List PPaper) (m : Int) (B : Nat) (A1 A2 A3 A4 A5 : Option Addr) (c1 c2 c3 c4 c5 : Nat) (w : World) (hS : RdWork w B A1 A2 A3 A4 c4 A5 ⟨d1, f1, ss1, d2, f2, ss2, st⟩ P pp) (hB : B ≤ w.heap.size) :
    Calls Tryz.prog 90 #[.agg #[.int .i64 d1, .int .i64 f1, .slice A1 ss1.length c1, .int .i64 d2, .int .i64 f2, .slice A2 ss2.length c2, .slice A3 st.length c3, .slice A4 P.length c4, .slice A5 pp.length c5, .int .i64 m]] w (UWork d1 f1 ss1 d2 f2 ss2 st P pp m w) := by
  obtain ⟨L, hpl, hL⟩ := hS.i
  have HPL := Lib.hid hpl
  have hpn := hS.p.nb
  clear hpl
  have hone := paperCells_one pp
  have HONE := hide hone
  clear hone
  obtain ⟨i0, hi0, hz0, hz1, hz2⟩ := info_parts info_paperCells
  go_enter Tryz.func90, Tryz.ntmps90
  go_wp2
  have hbW : Below w.heap.size w ((w.alloc (.cells #[.int .i64 d1, .int .i64 f1, .slice A1 ss1.length c1, .int .i64 d2, .int .i64 f2, .slice A2 ss2.length c2, .slice A3 st.length c3, .slice A4 P.length c4, .slice A5 pp.length c5, .int .i64 m] 41)).alloc (.cells #[.int .i64 0, .int .i64 0, .slice none 0 0, .int .i64 0, .int .i64 0, .slice none 0 0, .slice none 0 0, .slice none 0 0, .slice none 0 0, .int .i64 0] 41)) := bel
  have hk1 := box_first w (.cells #[.int .i64 d1, .int .i64 f1, .slice A1 ss1.length c1, .int .i64 d2, .int .i64 f2, .slice A2 ss2.length c2, .slice A3 st.length c3, .slice A4 P.length c4, .slice A5 pp.length c5, .int .i64 m] 41) (.cells #[.int .i64 0, .int .i64 0, .slice none 0 0, .int .i64 0, .int .i64 0, .slice none 0 0, .slice none 0 0, .slice none 0 0, .slice none 0 0, .int .i64 0] 41)
  have hk2 := box_second w (.cells #[.int .i64 d1, .int .i64 f1, .slice A1 ss1.length c1, .int .i64 d2, .int .i64 f2, .slice A2 ss2.length c2, .slice A3 st.length c3, .slice A4 P.length c4, .slice A5 pp.length c5, .int .i64 m] 41) (.cells #[.int .i64 0, .int .i64 0, .slice none 0 0, .int .i64 0, .int .i64 0, .slice none 0 0, .slice none 0 0, .slice none 0 0, .slice none 0 0, .int .i64 0] 41)
  generalize ((w.alloc (.cells #[.int .i64 d1, .int .i64 f1, .slice A1 ss1.length c1, .int .i64 d2, .int .i64 f2, .slice A2 ss2.length c2, .slice A3 st.length c3, .slice A4 P.length c4, .slice A5 pp.length c5, .int .i64 m] 41)).alloc (.cells #[.int .i64 0, .int .i64 0, .slice none 0 0, .int .i64 0, .int .i64 0, .slice none 0 0, .slice none 0 0, .slice none 0 0, .slice none 0 0, .int .i64 0] 41)) = w0 at *
  have hzw := hbW.size
  have hz0_ := blk_lt hk1
  have hz1_ := blk_lt hk2
  obtain ⟨hx0, hx1, hx2, hx3, hx4, hx5, hx6, hx7, hx8, hx9, hxl⟩ := blk10 hk1
  have gD := hS.d.below (hbW.mono hB)
  have gI := hL.below (hbW.mono hB)
  have gP := hS.p.below (hbW.mono hB)
  have hB0 : B ≤ w0.heap.size := by omega
  have hB1 : B ≤ w.heap.size + 1 := by omega
  have hz1q : w.heap.size + 1 ≤ w0.heap.size := by omega
  go_region_held3 (fun W => (∀ b o, b < w.heap.size + 1 → W.cell? ⟨b, o, none⟩ = (w0).cell? ⟨b, o, none⟩) ∧ (∀ b o, b < w.heap.size + 1 → W.frozen? ⟨b, o, none⟩ = (w0).frozen? ⟨b, o, none⟩) ∧ Below (w.heap.size + 1) (w0) W) (exact keep_of bel) (first | (go_at_call 142; have hq := (‹_ ∧ _ ∧ Below _ _ _›).2.2; refine (u_l37Copy d1 f1 ss1 d2 f2 ss2 st B A1 A2 A3 c1 c2 c3 _ (gD.below (hq.mono hB1)) (Nat.le_trans hB0 hq.size)).mono ?_; rintro e w1 ⟨B1, e1, B2, e2, B3, e3, rfl, ho1, hb1⟩; have hqs1 := hq.size; have hbs1 := hb1.size; (try simp at hqs1); (try simp at hbs1); (have hkk1 : w1.heap[w.heap.size + 1]? = some (.cells #[.int .i64 0, .int .i64 0, .slice none 0 0, .int .i64 0, .int .i64 0, .slice none 0 0, .slice none 0 0, .slice none 0 0, .slice none 0 0, .int .i64 0] 41 (0, 0)) := (by first | exact blk_next hk2 hb1 | exact blk_next (blk_drew hk2) hb1 | exact blk_next (blk_alloc hk2 _) hb1 | exact blk_next (blk_drew (blk_alloc hk2 _)) hb1))) | (go_at_call 143; have hq := (‹_ ∧ _ ∧ Below _ _ _›).2.2; refine (u_l35Copy P B A4 P.length c4 L _ HPL.out (gI.below (hq.mono hB1)) (Nat.le_trans hB0 hq.size)).mono ?_; rintro e w2 ⟨B4, e4, L4, rfl, hp4, ho4, hb2⟩; (have HP4 := Lib.hid hp4); clear hp4; have hqs2 := hq.size; have hbs2 := hb2.size; (try simp at hqs2); (try simp at hbs2); (have hkk2 : w2.heap[w.heap.size + 1]? = some (.cells #[.int .i64 0, .int .i64 0, .slice none 0 0, .int .i64 0, .int .i64 0, .slice none 0 0, .slice none 0 0, .slice none 0 0, .slice none 0 0, .int .i64 0] 41 (0, 0)) := (by first | exact blk_next hkk1 hb2 | exact blk_next (blk_drew hkk1) hb2 | exact blk_next (blk_alloc hkk1 _) hb2 | exact blk_next (blk_drew (blk_alloc hkk1 _)) hb2))) | ((have ho1X : OwnD w1 (w0.heap.size + 1) w1.heap.size B1 e1 B2 e2 B3 e3 ⟨d1, f1, ss1, d2, f2, ss2, st⟩ := ho1.wide (by first | exact Nat.le_refl _ | simp) (Nat.le_refl _)); (have ho4X : OwnItems w2 (w1.heap.size) w2.heap.size B4 P.length e4 L4 := ho4.wide (by first | exact Nat.le_refl _ | simp) (Nat.le_refl _)); (have hb2X : Below w1.heap.size w1 w2 := (by first | exact hb2 | exact ⟨hb2.os, hb2.tape, hb2.output, hb2.size, hb2.block⟩)); (have hb1X : Below (w0.alloc (.cells #[] 118)).heap.size (w0.alloc (.cells #[] 118)) w1 := (by first | exact hb1 | exact ⟨hb1.os, hb1.tape, hb1.output, hb1.size, hb1.block⟩)); (have hoE : World.ownsRow w2 w0.heap.size 118 3 (.slice (some ⟨w0.heap.size, 0, none⟩) 0 0) 0 [] := own_below (own_below (made_at w0 _ _ rfl (by omega)) hb1X) hb2X); (have ho1Y := ho1X.below hb2X); refine step_append_any _ rfl (.tmp 9) (.tmp 11) _ rfl w0.heap.size 118 i0 _ 3 24 Tryz.underlying39 hi0 hz0 hz1 hz2 rfl (by omega) (.slice (some ⟨w0.heap.size, 0, none⟩) 0 0) 0 [] rfl ?_ B A5 pp.length c5 (pp.flatMap paperCells) rfl ?_ (unhide HONE) ?_ ?_ ?_ ?_; (first | exact hoE | exact ⟨hoE.1, hoE.2⟩); (have hq := (‹_ ∧ _ ∧ Below _ _ _›).2.2; exact gP.rd.below (hq.mono hB1)); (unfold maxLen; omega); omega; (have hq := (‹_ ∧ _ ∧ Below _ _ _›).2.2; exact hq.size); intro v3 w3 ho3 hg3 hat3; (have hg3X : World.grownBy w2 w3 (Value.ownBlock (.slice (some ⟨w0.heap.size, 0, none⟩) 0 0)) := (by first | exact hg3 | exact ⟨hg3.os, hg3.tape, hg3.output, hg3.size, hg3.block⟩)); (have hz3 := hg3X.size; (try simp at hz3)); (have hq3 := (‹_ ∧ _ ∧ Below _ _ _›).2.2); (have hbw3 := grown_below hg3 (B := w.heap.size + 1) (fun k hk => Nat.le_trans hz1q (hoE.lt k hk).1) (Nat.le_trans hz1q hq3.size)); (have hbq3 := hq3.trans hbw3); (have hkk3 := blk_markedk (hkk2) hg3X hoE (by decide)); (have ho1Z := ho1Y.grownP hoE hg3X); (have ho4Z := (ho4X).grownP hoE hg3X); clear hg3 hbw3; obtain ⟨hv0, hv1, hv2, hv3, hv4, hv5, hv6, hv7, hv8, hv9, hvl⟩ := blk10 hkk3; obtain ⟨⟨hf0, hf1, hf2, hf3, hf4⟩, hf5, hf6, hf7, hf8, hf9⟩ := blk10f hkk3; rw [Nat.zero_add, List.nil_append] at ho3; obtain ⟨B5, e5, rfl⟩ := own_slice ho3; (have hsz1 := hb1X.size); (have hsz2 := hb2X.size); (simp at hsz1); (have hFin : ∃ l1 l2 k, OwnD w3 l1 w1.heap.size B1 e1 B2 e2 B3 e3 ⟨d1, f1, ss1, d2, f2, ss2, st⟩ ∧ OwnItems w3 l2 w2.heap.size B4 P.length e4 L4 ∧ OwnP w3 k (k + 1) B5 e5 pp ∧ (w0.heap.size ≤ l1 ∧ w1.heap.size ≤ w3.heap.size ∧ w1.heap.size ≤ l2 ∧ w2.heap.size ≤ w3.heap.size ∧ w0.heap.size ≤ k ∧ k + 1 ≤ w3.heap.size ∧ w0.heap.size ≤ w1.heap.size) ∧ (w1.heap.size ≤ k ∨ k + 1 ≤ l1) ∧ (w2.heap.size ≤ k ∨ k + 1 ≤ l2) := (by rcases hat3 with hq9 | hq9; (have hlt9 := (ho3.lt _ (show (Value.slice B5 pp.length e5).ownBlock = some w0.heap.size from hq9)).2; exact ⟨w0.heap.size + 1, w1.heap.size, w0.heap.size, ho1Z, ho4Z, OwnP.pin ho3 hq9, by omega, by omega, by omega⟩); (have hq8 : (Value.slice B5 pp.length e5).ownBlock = some w2.heap.size := hq9; have hlt9 := (ho3.lt _ hq8).2; exact ⟨w0.heap.size + 1, w1.heap.size, w2.heap.size, ho1Z, ho4Z, OwnP.pin ho3 hq8, by omega, by omega, by omega⟩))); (have HFIN := hide hFin); clear hFin hat3) | ((have ho1X : OwnD w1 (w0.heap.size) w1.heap.size B1 e1 B2 e2 B3 e3 ⟨d1, f1, ss1, d2, f2, ss2, st⟩ := ho1.wide (by first | exact Nat.le_refl _ | simp) (Nat.le_refl _)); (have ho4X : OwnItems w2 (w1.heap.size + 1) w2.heap.size B4 P.length e4 L4 := ho4.wide (by first | exact Nat.le_refl _ | simp) (Nat.le_refl _)); (have hb2X : Below (w1.alloc (.cells #[] 118)).heap.size (w1.alloc (.cells #[] 118)) w2 := (by first | exact hb2 | exact ⟨hb2.os, hb2.tape, hb2.output, hb2.size, hb2.block⟩)); (have hb1X : Below w0.heap.size w0 w1 := (by first | exact hb1 | exact ⟨hb1.os, hb1.tape, hb1.output, hb1.size, hb1.block⟩)); (have hoE : World.ownsRow w2 w0.heap.size 118 3 (.slice (some ⟨w1.heap.size, 0, none⟩) 0 0) 0 [] := own_below (made_at w1 _ _ rfl hb1X.size) hb2X); (have ho1Y := (ho1X.alloc (.cells #[] 118)).below hb2X); refine step_append_any _ rfl (.tmp 9) (.tmp 11) _ rfl w0.heap.size 118 i0 _ 3 24 Tryz.underlying39 hi0 hz0 hz1 hz2 rfl (by omega) (.slice (some ⟨w1.heap.size, 0, none⟩) 0 0) 0 [] rfl ?_ B A5 pp.length c5 (pp.flatMap paperCells) rfl ?_ (unhide HONE) ?_ ?_ ?_ ?_; (first | exact hoE | exact ⟨hoE.1, hoE.2⟩); (have hq := (‹_ ∧ _ ∧ Below _ _ _›).2.2; exact gP.rd.below (hq.mono hB1)); (unfold maxLen; omega); omega; (have hq := (‹_ ∧ _ ∧ Below _ _ _›).2.2; exact hq.size); intro v3 w3 ho3 hg3 hat3; (have hg3X : World.grownBy w2 w3 (Value.ownBlock (.slice (some ⟨w1.heap.size, 0, none⟩) 0 0)) := (by first | exact hg3 | exact ⟨hg3.os, hg3.tape, hg3.output, hg3.size, hg3.block⟩)); (have hz3 := hg3X.size; (try simp at hz3)); (have hq3 := (‹_ ∧ _ ∧ Below _ _ _›).2.2); (have hbw3 := grown_below hg3 (B := w.heap.size + 1) (fun k hk => Nat.le_trans hz1q (hoE.lt k hk).1) (Nat.le_trans hz1q hq3.size)); (have hbq3 := hq3.trans hbw3); (have hkk3 := blk_markedk (hkk2) hg3X hoE (by decide)); (have ho1Z := ho1Y.grownP hoE hg3X); (have ho4Z := (ho4X).grownP hoE hg3X); clear hg3 hbw3; obtain ⟨hv0, hv1, hv2, hv3, hv4, hv5, hv6, hv7, hv8, hv9, hvl⟩ := blk10 hkk3; obtain ⟨⟨hf0, hf1, hf2, hf3, hf4⟩, hf5, hf6, hf7, hf8, hf9⟩ := blk10f hkk3; rw [Nat.zero_add, List.nil_append] at ho3; obtain ⟨B5, e5, rfl⟩ := own_slice ho3; (have hsz1 := hb1X.size); (have hsz2 := hb2X.size); (simp at hsz2); (have hFin : ∃ l1 l2 k, OwnD w3 l1 w1.heap.size B1 e1 B2 e2 B3 e3 ⟨d1, f1, ss1, d2, f2, ss2, st⟩ ∧ OwnItems w3 l2 w2.heap.size B4 P.length e4 L4 ∧ OwnP w3 k (k + 1) B5 e5 pp ∧ (w0.heap.size ≤ l1 ∧ w1.heap.size ≤ w3.heap.size ∧ w1.heap.size ≤ l2 ∧ w2.heap.size ≤ w3.heap.size ∧ w0.heap.size ≤ k ∧ k + 1 ≤ w3.heap.size ∧ w0.heap.size ≤ w1.heap.size) ∧ (w1.heap.size ≤ k ∨ k + 1 ≤ l1) ∧ (w2.heap.size ≤ k ∨ k + 1 ≤ l2) := (by rcases hat3 with hq9 | hq9; (have hlt9 := (ho3.lt _ (show (Value.slice B5 pp.length e5).ownBlock = some w1.heap.size from hq9)).2; exact ⟨w0.heap.size, w1.heap.size + 1, w1.heap.size, ho1Z, ho4Z, OwnP.pin ho3 hq9, by omega, by omega, by omega⟩); (have hq8 : (Value.slice B5 pp.length e5).ownBlock = some w2.heap.size := hq9; have hlt9 := (ho3.lt _ hq8).2; exact ⟨w0.heap.size, w1.heap.size + 1, w2.heap.size, ho1Z, ho4Z, OwnP.pin ho3 hq8, by omega, by omega, by omega⟩))); (have HFIN := hide hFin); clear hFin hat3) | ((have ho1X : OwnD w1 (w0.heap.size) w1.heap.size B1 e1 B2 e2 B3 e3 ⟨d1, f1, ss1, d2, f2, ss2, st⟩ := ho1.wide (by first | exact Nat.le_refl _ | simp) (Nat.le_refl _)); (have ho4X : OwnItems w2 (w1.heap.size) w2.heap.size B4 P.length e4 L4 := ho4.wide (by first | exact Nat.le_refl _ | simp) (Nat.le_refl _)); (have hb2X : Below w1.heap.size w1 w2 := (by first | exact hb2 | exact ⟨hb2.os, hb2.tape, hb2.output, hb2.size, hb2.block⟩)); (have hb1X : Below w0.heap.size w0 w1 := (by first | exact hb1 | exact ⟨hb1.os, hb1.tape, hb1.output, hb1.size, hb1.block⟩)); (have hoE : World.ownsRow (w2.alloc (.cells #[] 118)) w0.heap.size 118 3 (.slice (some ⟨w2.heap.size, 0, none⟩) 0 0) 0 [] := made_at w2 _ _ rfl (Nat.le_trans hb1X.size hb2X.size)); (have ho1Y := (ho1X.below hb2X).alloc (.cells #[] 118)); refine step_append_any _ rfl (.tmp 9) (.tmp 11) _ rfl w0.heap.size 118 i0 _ 3 24 Tryz.underlying39 hi0 hz0 hz1 hz2 rfl (by omega) (.slice (some ⟨w2.heap.size, 0, none⟩) 0 0) 0 [] rfl ?_ B A5 pp.length c5 (pp.flatMap paperCells) rfl ?_ (unhide HONE) ?_ ?_ ?_ ?_; (first | exact hoE | exact ⟨hoE.1, hoE.2⟩); (have hq := (‹_ ∧ _ ∧ Below _ _ _›).2.2; exact gP.rd.below (hq.mono hB1)); (unfold maxLen; omega); omega; (have hq := (‹_ ∧ _ ∧ Below _ _ _›).2.2; exact hq.size); intro v3 w3 ho3 hg3 hat3; (have hg3X : World.grownBy (w2.alloc (.cells #[] 118)) w3 (Value.ownBlock (.slice (some ⟨w2.heap.size, 0, none⟩) 0 0)) := (by first | exact hg3 | exact ⟨hg3.os, hg3.tape, hg3.output, hg3.size, hg3.block⟩)); (have hz3 := hg3X.size; (try simp at hz3)); (have hq3 := (‹_ ∧ _ ∧ Below _ _ _›).2.2); (have hbw3 := grown_below hg3 (B := w.heap.size + 1) (fun k hk => Nat.le_trans hz1q (hoE.lt k hk).1) (Nat.le_trans hz1q hq3.size)); (have hbq3 := hq3.trans hbw3); (have hkk3 := blk_markedk (blk_alloc hkk2 _) hg3X hoE (by decide)); (have ho1Z := ho1Y.grownP hoE hg3X); (have ho4Z := (ho4X.alloc (.cells #[] 118)).grownP hoE hg3X); clear hg3 hbw3; obtain ⟨hv0, hv1, hv2, hv3, hv4, hv5, hv6, hv7, hv8, hv9, hvl⟩ := blk10 hkk3; obtain ⟨⟨hf0, hf1, hf2, hf3, hf4⟩, hf5, hf6, hf7, hf8, hf9⟩ := blk10f hkk3; rw [Nat.zero_add, List.nil_append] at ho3; obtain ⟨B5, e5, rfl⟩ := own_slice ho3; (have hsz1 := hb1X.size); (have hsz2 := hb2X.size); (have hFin : ∃ l1 l2 k, OwnD w3 l1 w1.heap.size B1 e1 B2 e2 B3 e3 ⟨d1, f1, ss1, d2, f2, ss2, st⟩ ∧ OwnItems w3 l2 w2.heap.size B4 P.length e4 L4 ∧ OwnP w3 k (k + 1) B5 e5 pp ∧ (w0.heap.size ≤ l1 ∧ w1.heap.size ≤ w3.heap.size ∧ w1.heap.size ≤ l2 ∧ w2.heap.size ≤ w3.heap.size ∧ w0.heap.size ≤ k ∧ k + 1 ≤ w3.heap.size ∧ w0.heap.size ≤ w1.heap.size) ∧ (w1.heap.size ≤ k ∨ k + 1 ≤ l1) ∧ (w2.heap.size ≤ k ∨ k + 1 ≤ l2) := (by rcases hat3 with hq9 | hq9; (have hlt9 := (ho3.lt _ (show (Value.slice B5 pp.length e5).ownBlock = some w2.heap.size from hq9)).2; exact ⟨w0.heap.size, w1.heap.size, w2.heap.size, ho1Z, ho4Z, OwnP.pin ho3 hq9, by omega, by omega, by omega⟩); (have hq8 : (Value.slice B5 pp.length e5).ownBlock = some (w2.heap.size + 1) := (hq9.trans (by simp)); have hlt9 := (ho3.lt _ hq8).2; exact ⟨w0.heap.size, w1.heap.size, (w2.heap.size + 1), ho1Z, ho4Z, OwnP.pin ho3 hq8, by omega, by omega, by omega⟩))); (have HFIN := hide hFin); clear hFin hat3))
  all_goals (
    go_wp2
    have hbx3 : Below w.heap.size w w3 := hbW.trans (hbq3.mono (by omega))
    refine bodyPost_ret (v := .agg #[.int .i64 d1, .int .i64 f1, .slice B1 ss1.length e1, .int .i64 d2, .int .i64 f2, .slice B2 ss2.length e2, .slice B3 st.length e3, .slice B4 P.length e4, .slice B5 pp.length e5, .int .i64 m]) (by simp [results, Tryz.results90, go_sem, *]) rfl ?_
    have hbx := boxAt_of hkk3
    have HBX := hide hbx3
    clear hbx3
    obtain ⟨l1, l2, k, q1, q4, q5, hr1, hr2, hr3⟩ := unhide HFIN
    refine ⟨B1, e1, B2, e2, B3, e3, B4, e4, B5, e5, rfl, OwnW.mk3 ((OwnDW.of q1).boxy (by repeat (first | (with_reducible exact Boxy.refl _) | (with_reducible refine Boxy.drew ?_) | (with_reducible refine Boxy.drewN ?_ _) | (with_reducible refine Boxy.alloc ?_ _) | ((with_reducible refine Boxy.setCell ?_ ?hbs _); (case hbs => first | (with_reducible exact .inl (by assumption)) | exact .inl (by assumption) | exact .inr (by simp) | exact .inr (by simp; omega)))))) HP4.out (q4.boxy (by repeat (first | (with_reducible exact Boxy.refl _) | (with_reducible refine Boxy.drew ?_) | (with_reducible refine Boxy.drewN ?_ _) | (with_reducible refine Boxy.alloc ?_ _) | ((with_reducible refine Boxy.setCell ?_ ?hbs _); (case hbs => first | (with_reducible exact .inl (by assumption)) | exact .inl (by assumption) | exact .inr (by simp) | exact .inr (by simp; omega)))))) (q5.boxy (by repeat (first | (with_reducible exact Boxy.refl _) | (with_reducible refine Boxy.drew ?_) | (with_reducible refine Boxy.drewN ?_ _) | (with_reducible refine Boxy.alloc ?_ _) | ((with_reducible refine Boxy.setCell ?_ ?hbs _); (case hbs => first | (with_reducible exact .inl (by assumption)) | exact .inl (by assumption) | exact .inr (by simp) | exact .inr (by simp; omega)))))) (by simp [World.setCell]; omega) (by omega), ?_⟩
    have hbx3 := unhide HBX
    clear hb1 hb2 hb1X hb2X hq3 hbq3
    exact bel)
end Go.Proofs.YtdddglihomchfaaGreat
namespace Go.Proofs.YtdddglihomchfaaGreat
open Go.ChangeShapes Go.WideShapes Go.ChangeAt Go.RowKit
set_option linter.unusedVariables false
set_option linter.unusedSimpArgs false
set_option maxRecDepth 10000
set_option maxHeartbeats 3200000 in
theorem i_wchanged_yes (d1 f1 : Int) (ss1 : List ByteArray) (d2 f2 : Int) (ss2 : List ByteArray) (st : List PStep) (P : List PItem) (pp : List PPaper) (m : Int) (d1o f1o : Int) (ss1o : List ByteArray) (d2o f2o : Int) (ss2o : List ByteArray) (sto : List PStep) (Po : List PItem) (ppo : List PPaper) (mo : Int) (A1 A2 A3 A4 A5 : Option Addr) (c1 c2 c3 c4 c5 : Nat) (E1 E2 E3 E4 E5 : Option Addr) (g1 g2 g3 g4 g5 : Nat) (B B2 : Nat) (w : World) (hS : RdWork w B A1 A2 A3 A4 c4 A5 ⟨d1, f1, ss1, d2, f2, ss2, st⟩ P pp) (hB : B ≤ w.heap.size) (hO : RdWork w B2 E1 E2 E3 E4 g4 E5 ⟨d1o, f1o, ss1o, d2o, f2o, ss2o, sto⟩ Po ppo) (hB2 : B2 ≤ w.heap.size) (h1 : workOk ⟨⟨d1, f1, ss1, d2, f2, ss2, st⟩, P, pp, m⟩ = true) (h2 : workOk ⟨⟨d1o, f1o, ss1o, d2o, f2o, ss2o, sto⟩, Po, ppo, mo⟩ = true) :
    Calls Tryz.prog 92 #[.agg #[.int .i64 d1, .int .i64 f1, .slice A1 ss1.length c1, .int .i64 d2, .int .i64 f2, .slice A2 ss2.length c2, .slice A3 st.length c3, .slice A4 P.length c4, .slice A5 pp.length c5, .int .i64 m], .agg #[.int .i64 d1o, .int .i64 f1o, .slice E1 ss1o.length g1, .int .i64 d2o, .int .i64 f2o, .slice E2 ss2o.length g2, .slice E3 sto.length g3, .slice E4 Po.length g4, .slice E5 ppo.length g5, .int .i64 mo], .bool true] w fun e w' => e = .returned (.tuple #[.agg #[.int .i64 d1o, .int .i64 f1o, .slice E1 ss1o.length g1, .int .i64 d2o, .int .i64 f2o, .slice E2 ss2o.length g2, .slice E3 sto.length g3, .slice E4 Po.length g4, .slice E5 ppo.length g5, .int .i64 mo], .bool true]) ∧ Below w.heap.size w w' := by
  have H1 := Lib.hid h1
  have H2 := Lib.hid h2
  clear h1 h2
  go_enter Tryz.func92, Tryz.ntmps92
  go_wp2_with fail
  obtain ⟨w1, he_w1⟩ : ∃ x, x = (((w.alloc (.cells #[.int .i64 d1, .int .i64 f1, .slice A1 ss1.length c1, .int .i64 d2, .int .i64 f2, .slice A2 ss2.length c2, .slice A3 st.length c3, .slice A4 P.length c4, .slice A5 pp.length c5, .int .i64 m] 41)).alloc (.cells #[.int .i64 d1o, .int .i64 f1o, .slice E1 ss1o.length g1, .int .i64 d2o, .int .i64 f2o, .slice E2 ss2o.length g2, .slice E3 sto.length g3, .slice E4 Po.length g4, .slice E5 ppo.length g5, .int .i64 mo] 41)).alloc (.cells #[.int .i64 0, .int .i64 0, .slice none 0 0, .int .i64 0, .int .i64 0, .slice none 0 0, .slice none 0 0, .slice none 0 0, .slice none 0 0, .int .i64 0] 41)) := ⟨_, rfl⟩
  have hk_a_w1 : w1.heap[w.heap.size]? = some (.cells #[.int .i64 d1, .int .i64 f1, .slice A1 ss1.length c1, .int .i64 d2, .int .i64 f2, .slice A2 ss2.length c2, .slice A3 st.length c3, .slice A4 P.length c4, .slice A5 pp.length c5, .int .i64 m] 41 (0, 0)) := by rw [he_w1]; exact (blk_alloc (blk_alloc (blk_new_at w (.cells #[.int .i64 d1, .int .i64 f1, .slice A1 ss1.length c1, .int .i64 d2, .int .i64 f2, .slice A2 ss2.length c2, .slice A3 st.length c3, .slice A4 P.length c4, .slice A5 pp.length c5, .int .i64 m] 41) (k := w.heap.size) (by simp [World.setCell])) _) _)
  have hk_b_w1 : w1.heap[w.heap.size + 1]? = some (.cells #[.int .i64 d1o, .int .i64 f1o, .slice E1 ss1o.length g1, .int .i64 d2o, .int .i64 f2o, .slice E2 ss2o.length g2, .slice E3 sto.length g3, .slice E4 Po.length g4, .slice E5 ppo.length g5, .int .i64 mo] 41 (0, 0)) := by rw [he_w1]; exact (blk_alloc (blk_new_at (w.alloc (.cells #[.int .i64 d1, .int .i64 f1, .slice A1 ss1.length c1, .int .i64 d2, .int .i64 f2, .slice A2 ss2.length c2, .slice A3 st.length c3, .slice A4 P.length c4, .slice A5 pp.length c5, .int .i64 m] 41)) (.cells #[.int .i64 d1o, .int .i64 f1o, .slice E1 ss1o.length g1, .int .i64 d2o, .int .i64 f2o, .slice E2 ss2o.length g2, .slice E3 sto.length g3, .slice E4 Po.length g4, .slice E5 ppo.length g5, .int .i64 mo] 41) (k := w.heap.size + 1) (by simp [World.setCell])) _)
  have hk_r_w1 : w1.heap[w.heap.size + 1 + 1]? = some (.cells #[.int .i64 0, .int .i64 0, .slice none 0 0, .int .i64 0, .int .i64 0, .slice none 0 0, .slice none 0 0, .slice none 0 0, .slice none 0 0, .int .i64 0] 41 (0, 0)) := by rw [he_w1]; exact (blk_new_at ((w.alloc (.cells #[.int .i64 d1, .int .i64 f1, .slice A1 ss1.length c1, .int .i64 d2, .int .i64 f2, .slice A2 ss2.length c2, .slice A3 st.length c3, .slice A4 P.length c4, .slice A5 pp.length c5, .int .i64 m] 41)).alloc (.cells #[.int .i64 d1o, .int .i64 f1o, .slice E1 ss1o.length g1, .int .i64 d2o, .int .i64 f2o, .slice E2 ss2o.length g2, .slice E3 sto.length g3, .slice E4 Po.length g4, .slice E5 ppo.length g5, .int .i64 mo] 41)) (.cells #[.int .i64 0, .int .i64 0, .slice none 0 0, .int .i64 0, .int .i64 0, .slice none 0 0, .slice none 0 0, .slice none 0 0, .slice none 0 0, .int .i64 0] 41) (k := w.heap.size + 1 + 1) (by simp [World.setCell]))
  have hbw_w1 : Below w.heap.size w w1 := by rw [he_w1]; exact bel
  have hsw_w1 := hbw_w1.size
  have hch_w1 : w.heap.size ≤ w1.heap.size := by rw [he_w1]; simp [World.setCell]; try omega
  rw [← he_w1]
  clear he_w1
  refine (i_WorkshopOk d1 f1 ss1 d2 f2 ss2 st P pp m B A1 A2 A3 A4 A5 c1 c2 c3 c4 c5 w1 (hS.below (hbw_w1.mono hB)) (Nat.le_trans hB hsw_w1)).mono ?_
  rw [H1.out]
  rintro e w2 ⟨rfl, hb_w2⟩
  have hk_a_w2 := blk_next hk_a_w1 hb_w2
  have hk_b_w2 := blk_next hk_b_w1 hb_w2
  have hk_r_w2 := blk_next hk_r_w1 hb_w2
  have hbw_w2 : Below w.heap.size w w2 := hbw_w1.trans (hb_w2.mono hsw_w1)
  have hsw_w2 := hbw_w2.size
  have hch_w2 : w1.heap.size ≤ w2.heap.size := hb_w2.size
  clear hk_a_w1 hk_b_w1 hk_r_w1 hbw_w1 hsw_w1 hb_w2
  obtain ⟨x0_b, x1_b, x2_b, x3_b, x4_b, x5_b, x6_b, x7_b, x8_b, x9_b, xl_b⟩ := blk10 hk_b_w2
  go_wp2_with fail
  clear x0_b x1_b x2_b x3_b x4_b x5_b x6_b x7_b x8_b x9_b xl_b
  refine (i_WorkshopOk d1o f1o ss1o d2o f2o ss2o sto Po ppo mo B2 E1 E2 E3 E4 E5 g1 g2 g3 g4 g5 w2 (hO.below (hbw_w2.mono hB2)) (Nat.le_trans hB2 hsw_w2)).mono ?_
  rw [H2.out]
  rintro e w3 ⟨rfl, hb_w3⟩
  have hk_a_w3 := blk_next hk_a_w2 hb_w3
  have hk_b_w3 := blk_next hk_b_w2 hb_w3
  have hk_r_w3 := blk_next hk_r_w2 hb_w3
  have hbw_w3 : Below w.heap.size w w3 := hbw_w2.trans (hb_w3.mono hsw_w2)
  have hsw_w3 := hbw_w3.size
  have hch_w3 : w2.heap.size ≤ w3.heap.size := hb_w3.size
  clear hk_a_w2 hk_b_w2 hk_r_w2 hbw_w2 hsw_w2 hb_w3
  obtain ⟨x0_b, x1_b, x2_b, x3_b, x4_b, x5_b, x6_b, x7_b, x8_b, x9_b, xl_b⟩ := blk10 hk_b_w3
  obtain ⟨x0_r, x1_r, x2_r, x3_r, x4_r, x5_r, x6_r, x7_r, x8_r, x9_r, xl_r⟩ := blk10 hk_r_w3
  have f0_r := (blk_cells hk_r_w3 0).2
  have f1_r := (blk_cells hk_r_w3 1).2
  have f2_r := (blk_cells hk_r_w3 2).2
  have f3_r := (blk_cells hk_r_w3 3).2
  have f4_r := (blk_cells hk_r_w3 4).2
  have f5_r := (blk_cells hk_r_w3 5).2
  have f6_r := (blk_cells hk_r_w3 6).2
  have f7_r := (blk_cells hk_r_w3 7).2
  have f8_r := (blk_cells hk_r_w3 8).2
  have f9_r := (blk_cells hk_r_w3 9).2
  go_wp2
  have hbx_r := boxAt_of hk_r_w3
  refine bodyPost_ret (v := .tuple #[.agg #[.int .i64 d1o, .int .i64 f1o, .slice E1 ss1o.length g1, .int .i64 d2o, .int .i64 f2o, .slice E2 ss2o.length g2, .slice E3 sto.length g3, .slice E4 Po.length g4, .slice E5 ppo.length g5, .int .i64 mo], .bool true]) (by simp [results, Tryz.results92, go_sem, *]) rfl ?_
  clear x0_b x1_b x2_b x3_b x4_b x5_b x6_b x7_b x8_b x9_b xl_b x0_r x1_r x2_r x3_r x4_r x5_r x6_r x7_r x8_r x9_r xl_r f0_r f1_r f2_r f3_r f4_r f5_r f6_r f7_r f8_r f9_r
  obtain ⟨wE, heE⟩ : ∃ x, x = ((((((((((w3.setCell ⟨w.heap.size + 1 + 1, 0, none⟩ (.int .i64 d1o)).setCell ⟨w.heap.size + 1 + 1, 1, none⟩ (.int .i64 f1o)).setCell ⟨w.heap.size + 1 + 1, 2, none⟩ (.slice E1 ss1o.length g1)).setCell ⟨w.heap.size + 1 + 1, 3, none⟩ (.int .i64 d2o)).setCell ⟨w.heap.size + 1 + 1, 4, none⟩ (.int .i64 f2o)).setCell ⟨w.heap.size + 1 + 1, 5, none⟩ (.slice E2 ss2o.length g2)).setCell ⟨w.heap.size + 1 + 1, 6, none⟩ (.slice E3 sto.length g3)).setCell ⟨w.heap.size + 1 + 1, 7, none⟩ (.slice E4 Po.length g4)).setCell ⟨w.heap.size + 1 + 1, 8, none⟩ (.slice E5 ppo.length g5)).setCell ⟨w.heap.size + 1 + 1, 9, none⟩ (.int .i64 mo)) := ⟨_, rfl⟩
  have hBW : Below w.heap.size w wE := by rw [heE]; exact bel
  have hsE : wE.heap.size = w3.heap.size := by rw [heE]; simp [World.setCell]
  rw [← heE]
  clear heE
  exact ⟨rfl, hBW⟩
set_option maxHeartbeats 3200000 in
theorem i_wchanged_no (d1 f1 : Int) (ss1 : List ByteArray) (d2 f2 : Int) (ss2 : List ByteArray) (st : List PStep) (P : List PItem) (pp : List PPaper) (m : Int) (d1o f1o : Int) (ss1o : List ByteArray) (d2o f2o : Int) (ss2o : List ByteArray) (sto : List PStep) (Po : List PItem) (ppo : List PPaper) (mo : Int) (A1 A2 A3 A4 A5 : Option Addr) (c1 c2 c3 c4 c5 : Nat) (E1 E2 E3 E4 E5 : Option Addr) (g1 g2 g3 g4 g5 : Nat) (b : Bool) (B B2 : Nat) (w : World) (hS : RdWork w B A1 A2 A3 A4 c4 A5 ⟨d1, f1, ss1, d2, f2, ss2, st⟩ P pp) (hB : B ≤ w.heap.size) (hO : RdWork w B2 E1 E2 E3 E4 g4 E5 ⟨d1o, f1o, ss1o, d2o, f2o, ss2o, sto⟩ Po ppo) (hB2 : B2 ≤ w.heap.size) (hn : (b && (workOk ⟨⟨d1, f1, ss1, d2, f2, ss2, st⟩, P, pp, m⟩ && workOk ⟨⟨d1o, f1o, ss1o, d2o, f2o, ss2o, sto⟩, Po, ppo, mo⟩)) = false) :
    Calls Tryz.prog 92 #[.agg #[.int .i64 d1, .int .i64 f1, .slice A1 ss1.length c1, .int .i64 d2, .int .i64 f2, .slice A2 ss2.length c2, .slice A3 st.length c3, .slice A4 P.length c4, .slice A5 pp.length c5, .int .i64 m], .agg #[.int .i64 d1o, .int .i64 f1o, .slice E1 ss1o.length g1, .int .i64 d2o, .int .i64 f2o, .slice E2 ss2o.length g2, .slice E3 sto.length g3, .slice E4 Po.length g4, .slice E5 ppo.length g5, .int .i64 mo], .bool b] w (UWorkB d1 f1 ss1 d2 f2 ss2 st P pp m false w) := by
  cases b
  case false =>
    clear hn
    go_enter Tryz.func92, Tryz.ntmps92
    go_wp2_with fail
    obtain ⟨w1, he_w1⟩ : ∃ x, x = (((w.alloc (.cells #[.int .i64 d1, .int .i64 f1, .slice A1 ss1.length c1, .int .i64 d2, .int .i64 f2, .slice A2 ss2.length c2, .slice A3 st.length c3, .slice A4 P.length c4, .slice A5 pp.length c5, .int .i64 m] 41)).alloc (.cells #[.int .i64 d1o, .int .i64 f1o, .slice E1 ss1o.length g1, .int .i64 d2o, .int .i64 f2o, .slice E2 ss2o.length g2, .slice E3 sto.length g3, .slice E4 Po.length g4, .slice E5 ppo.length g5, .int .i64 mo] 41)).alloc (.cells #[.int .i64 0, .int .i64 0, .slice none 0 0, .int .i64 0, .int .i64 0, .slice none 0 0, .slice none 0 0, .slice none 0 0, .slice none 0 0, .int .i64 0] 41)) := ⟨_, rfl⟩
    have hk_a_w1 : w1.heap[w.heap.size]? = some (.cells #[.int .i64 d1, .int .i64 f1, .slice A1 ss1.length c1, .int .i64 d2, .int .i64 f2, .slice A2 ss2.length c2, .slice A3 st.length c3, .slice A4 P.length c4, .slice A5 pp.length c5, .int .i64 m] 41 (0, 0)) := by rw [he_w1]; exact (blk_alloc (blk_alloc (blk_new_at w (.cells #[.int .i64 d1, .int .i64 f1, .slice A1 ss1.length c1, .int .i64 d2, .int .i64 f2, .slice A2 ss2.length c2, .slice A3 st.length c3, .slice A4 P.length c4, .slice A5 pp.length c5, .int .i64 m] 41) (k := w.heap.size) (by simp [World.setCell])) _) _)
    have hk_b_w1 : w1.heap[w.heap.size + 1]? = some (.cells #[.int .i64 d1o, .int .i64 f1o, .slice E1 ss1o.length g1, .int .i64 d2o, .int .i64 f2o, .slice E2 ss2o.length g2, .slice E3 sto.length g3, .slice E4 Po.length g4, .slice E5 ppo.length g5, .int .i64 mo] 41 (0, 0)) := by rw [he_w1]; exact (blk_alloc (blk_new_at (w.alloc (.cells #[.int .i64 d1, .int .i64 f1, .slice A1 ss1.length c1, .int .i64 d2, .int .i64 f2, .slice A2 ss2.length c2, .slice A3 st.length c3, .slice A4 P.length c4, .slice A5 pp.length c5, .int .i64 m] 41)) (.cells #[.int .i64 d1o, .int .i64 f1o, .slice E1 ss1o.length g1, .int .i64 d2o, .int .i64 f2o, .slice E2 ss2o.length g2, .slice E3 sto.length g3, .slice E4 Po.length g4, .slice E5 ppo.length g5, .int .i64 mo] 41) (k := w.heap.size + 1) (by simp [World.setCell])) _)
    have hk_r_w1 : w1.heap[w.heap.size + 1 + 1]? = some (.cells #[.int .i64 0, .int .i64 0, .slice none 0 0, .int .i64 0, .int .i64 0, .slice none 0 0, .slice none 0 0, .slice none 0 0, .slice none 0 0, .int .i64 0] 41 (0, 0)) := by rw [he_w1]; exact (blk_new_at ((w.alloc (.cells #[.int .i64 d1, .int .i64 f1, .slice A1 ss1.length c1, .int .i64 d2, .int .i64 f2, .slice A2 ss2.length c2, .slice A3 st.length c3, .slice A4 P.length c4, .slice A5 pp.length c5, .int .i64 m] 41)).alloc (.cells #[.int .i64 d1o, .int .i64 f1o, .slice E1 ss1o.length g1, .int .i64 d2o, .int .i64 f2o, .slice E2 ss2o.length g2, .slice E3 sto.length g3, .slice E4 Po.length g4, .slice E5 ppo.length g5, .int .i64 mo] 41)) (.cells #[.int .i64 0, .int .i64 0, .slice none 0 0, .int .i64 0, .int .i64 0, .slice none 0 0, .slice none 0 0, .slice none 0 0, .slice none 0 0, .int .i64 0] 41) (k := w.heap.size + 1 + 1) (by simp [World.setCell]))
    have hbw_w1 : Below w.heap.size w w1 := by rw [he_w1]; exact bel
    have hsw_w1 := hbw_w1.size
    have hch_w1 : w.heap.size ≤ w1.heap.size := by rw [he_w1]; simp [World.setCell]; try omega
    rw [← he_w1]
    clear he_w1
    refine (i_workCopied d1 f1 ss1 d2 f2 ss2 st P pp m B A1 A2 A3 A4 A5 c1 c2 c3 c4 c5 w1 (hS.below (hbw_w1.mono hB)) (Nat.le_trans hB hsw_w1)).mono ?_
    rintro e w2 ⟨B1, e1, B2q, e2, B3, e3, B4, e4, B5, e5, rfl, hon, hb_w2⟩
    have hk_a_w2 := blk_next hk_a_w1 hb_w2
    have hk_b_w2 := blk_next hk_b_w1 hb_w2
    have hk_r_w2 := blk_next hk_r_w1 hb_w2
    have hbw_w2 : Below w.heap.size w w2 := hbw_w1.trans (hb_w2.mono hsw_w1)
    have hsw_w2 := hbw_w2.size
    have hch_w2 : w1.heap.size ≤ w2.heap.size := hb_w2.size
    clear hk_a_w1 hk_b_w1 hk_r_w1 hbw_w1 hsw_w1 hb_w2
    have ho_c_w2 := hon
    clear hon
    have hoW := ho_c_w2.wide (lo' := w.heap.size) (hi' := w2.heap.size) (by omega) (Nat.le_refl _)
    clear ho_c_w2
    obtain ⟨x0_r, x1_r, x2_r, x3_r, x4_r, x5_r, x6_r, x7_r, x8_r, x9_r, xl_r⟩ := blk10 hk_r_w2
    have f0_r := (blk_cells hk_r_w2 0).2
    have f1_r := (blk_cells hk_r_w2 1).2
    have f2_r := (blk_cells hk_r_w2 2).2
    have f3_r := (blk_cells hk_r_w2 3).2
    have f4_r := (blk_cells hk_r_w2 4).2
    have f5_r := (blk_cells hk_r_w2 5).2
    have f6_r := (blk_cells hk_r_w2 6).2
    have f7_r := (blk_cells hk_r_w2 7).2
    have f8_r := (blk_cells hk_r_w2 8).2
    have f9_r := (blk_cells hk_r_w2 9).2
    go_wp2
    have hbx_r := boxAt_of hk_r_w2
    refine bodyPost_ret (v := .tuple #[.agg #[.int .i64 d1, .int .i64 f1, .slice B1 ss1.length e1, .int .i64 d2, .int .i64 f2, .slice B2q ss2.length e2, .slice B3 st.length e3, .slice B4 P.length e4, .slice B5 pp.length e5, .int .i64 m], .bool false]) (by simp [results, Tryz.results92, go_sem, *]) rfl ?_
    clear x0_r x1_r x2_r x3_r x4_r x5_r x6_r x7_r x8_r x9_r xl_r f0_r f1_r f2_r f3_r f4_r f5_r f6_r f7_r f8_r f9_r
    obtain ⟨wE, heE⟩ : ∃ x, x = ((((((((((w2.setCell ⟨w.heap.size + 1 + 1, 0, none⟩ (.int .i64 d1)).setCell ⟨w.heap.size + 1 + 1, 1, none⟩ (.int .i64 f1)).setCell ⟨w.heap.size + 1 + 1, 2, none⟩ (.slice B1 ss1.length e1)).setCell ⟨w.heap.size + 1 + 1, 3, none⟩ (.int .i64 d2)).setCell ⟨w.heap.size + 1 + 1, 4, none⟩ (.int .i64 f2)).setCell ⟨w.heap.size + 1 + 1, 5, none⟩ (.slice B2q ss2.length e2)).setCell ⟨w.heap.size + 1 + 1, 6, none⟩ (.slice B3 st.length e3)).setCell ⟨w.heap.size + 1 + 1, 7, none⟩ (.slice B4 P.length e4)).setCell ⟨w.heap.size + 1 + 1, 8, none⟩ (.slice B5 pp.length e5)).setCell ⟨w.heap.size + 1 + 1, 9, none⟩ (.int .i64 m)) := ⟨_, rfl⟩
    have hBX : Boxy w2 wE := by rw [heE]; exact boxy
    have hBW : Below w.heap.size w wE := by rw [heE]; exact bel
    have hsE : wE.heap.size = w2.heap.size := by rw [heE]; simp [World.setCell]
    rw [← heE]
    clear heE
    exact ⟨B1, e1, B2q, e2, B3, e3, B4, e4, B5, e5, rfl, (hoW.boxy hBX).wide (Nat.le_refl _) (by omega), hBW⟩
  case true =>
    cases h1 : workOk ⟨⟨d1, f1, ss1, d2, f2, ss2, st⟩, P, pp, m⟩
    case false =>
      have H1 := Lib.hid h1
      clear hn h1
      go_enter Tryz.func92, Tryz.ntmps92
      go_wp2_with fail
      obtain ⟨w1, he_w1⟩ : ∃ x, x = (((w.alloc (.cells #[.int .i64 d1, .int .i64 f1, .slice A1 ss1.length c1, .int .i64 d2, .int .i64 f2, .slice A2 ss2.length c2, .slice A3 st.length c3, .slice A4 P.length c4, .slice A5 pp.length c5, .int .i64 m] 41)).alloc (.cells #[.int .i64 d1o, .int .i64 f1o, .slice E1 ss1o.length g1, .int .i64 d2o, .int .i64 f2o, .slice E2 ss2o.length g2, .slice E3 sto.length g3, .slice E4 Po.length g4, .slice E5 ppo.length g5, .int .i64 mo] 41)).alloc (.cells #[.int .i64 0, .int .i64 0, .slice none 0 0, .int .i64 0, .int .i64 0, .slice none 0 0, .slice none 0 0, .slice none 0 0, .slice none 0 0, .int .i64 0] 41)) := ⟨_, rfl⟩
      have hk_a_w1 : w1.heap[w.heap.size]? = some (.cells #[.int .i64 d1, .int .i64 f1, .slice A1 ss1.length c1, .int .i64 d2, .int .i64 f2, .slice A2 ss2.length c2, .slice A3 st.length c3, .slice A4 P.length c4, .slice A5 pp.length c5, .int .i64 m] 41 (0, 0)) := by rw [he_w1]; exact (blk_alloc (blk_alloc (blk_new_at w (.cells #[.int .i64 d1, .int .i64 f1, .slice A1 ss1.length c1, .int .i64 d2, .int .i64 f2, .slice A2 ss2.length c2, .slice A3 st.length c3, .slice A4 P.length c4, .slice A5 pp.length c5, .int .i64 m] 41) (k := w.heap.size) (by simp [World.setCell])) _) _)
      have hk_b_w1 : w1.heap[w.heap.size + 1]? = some (.cells #[.int .i64 d1o, .int .i64 f1o, .slice E1 ss1o.length g1, .int .i64 d2o, .int .i64 f2o, .slice E2 ss2o.length g2, .slice E3 sto.length g3, .slice E4 Po.length g4, .slice E5 ppo.length g5, .int .i64 mo] 41 (0, 0)) := by rw [he_w1]; exact (blk_alloc (blk_new_at (w.alloc (.cells #[.int .i64 d1, .int .i64 f1, .slice A1 ss1.length c1, .int .i64 d2, .int .i64 f2, .slice A2 ss2.length c2, .slice A3 st.length c3, .slice A4 P.length c4, .slice A5 pp.length c5, .int .i64 m] 41)) (.cells #[.int .i64 d1o, .int .i64 f1o, .slice E1 ss1o.length g1, .int .i64 d2o, .int .i64 f2o, .slice E2 ss2o.length g2, .slice E3 sto.length g3, .slice E4 Po.length g4, .slice E5 ppo.length g5, .int .i64 mo] 41) (k := w.heap.size + 1) (by simp [World.setCell])) _)
      have hk_r_w1 : w1.heap[w.heap.size + 1 + 1]? = some (.cells #[.int .i64 0, .int .i64 0, .slice none 0 0, .int .i64 0, .int .i64 0, .slice none 0 0, .slice none 0 0, .slice none 0 0, .slice none 0 0, .int .i64 0] 41 (0, 0)) := by rw [he_w1]; exact (blk_new_at ((w.alloc (.cells #[.int .i64 d1, .int .i64 f1, .slice A1 ss1.length c1, .int .i64 d2, .int .i64 f2, .slice A2 ss2.length c2, .slice A3 st.length c3, .slice A4 P.length c4, .slice A5 pp.length c5, .int .i64 m] 41)).alloc (.cells #[.int .i64 d1o, .int .i64 f1o, .slice E1 ss1o.length g1, .int .i64 d2o, .int .i64 f2o, .slice E2 ss2o.length g2, .slice E3 sto.length g3, .slice E4 Po.length g4, .slice E5 ppo.length g5, .int .i64 mo] 41)) (.cells #[.int .i64 0, .int .i64 0, .slice none 0 0, .int .i64 0, .int .i64 0, .slice none 0 0, .slice none 0 0, .slice none 0 0, .slice none 0 0, .int .i64 0] 41) (k := w.heap.size + 1 + 1) (by simp [World.setCell]))
      have hbw_w1 : Below w.heap.size w w1 := by rw [he_w1]; exact bel
      have hsw_w1 := hbw_w1.size
      have hch_w1 : w.heap.size ≤ w1.heap.size := by rw [he_w1]; simp [World.setCell]; try omega
      rw [← he_w1]
      clear he_w1
      refine (i_WorkshopOk d1 f1 ss1 d2 f2 ss2 st P pp m B A1 A2 A3 A4 A5 c1 c2 c3 c4 c5 w1 (hS.below (hbw_w1.mono hB)) (Nat.le_trans hB hsw_w1)).mono ?_
      rw [H1.out]
      rintro e w2 ⟨rfl, hb_w2⟩
      have hk_a_w2 := blk_next hk_a_w1 hb_w2
      have hk_b_w2 := blk_next hk_b_w1 hb_w2
      have hk_r_w2 := blk_next hk_r_w1 hb_w2
      have hbw_w2 : Below w.heap.size w w2 := hbw_w1.trans (hb_w2.mono hsw_w1)
      have hsw_w2 := hbw_w2.size
      have hch_w2 : w1.heap.size ≤ w2.heap.size := hb_w2.size
      clear hk_a_w1 hk_b_w1 hk_r_w1 hbw_w1 hsw_w1 hb_w2
      obtain ⟨x0_a, x1_a, x2_a, x3_a, x4_a, x5_a, x6_a, x7_a, x8_a, x9_a, xl_a⟩ := blk10 hk_a_w2
      go_wp2_with fail
      clear x0_a x1_a x2_a x3_a x4_a x5_a x6_a x7_a x8_a x9_a xl_a
      refine (i_workCopied d1 f1 ss1 d2 f2 ss2 st P pp m B A1 A2 A3 A4 A5 c1 c2 c3 c4 c5 w2 (hS.below (hbw_w2.mono hB)) (Nat.le_trans hB hsw_w2)).mono ?_
      rintro e w3 ⟨B1, e1, B2q, e2, B3, e3, B4, e4, B5, e5, rfl, hon, hb_w3⟩
      have hk_a_w3 := blk_next hk_a_w2 hb_w3
      have hk_b_w3 := blk_next hk_b_w2 hb_w3
      have hk_r_w3 := blk_next hk_r_w2 hb_w3
      have hbw_w3 : Below w.heap.size w w3 := hbw_w2.trans (hb_w3.mono hsw_w2)
      have hsw_w3 := hbw_w3.size
      have hch_w3 : w2.heap.size ≤ w3.heap.size := hb_w3.size
      clear hk_a_w2 hk_b_w2 hk_r_w2 hbw_w2 hsw_w2 hb_w3
      have ho_c_w3 := hon
      clear hon
      have hoW := ho_c_w3.wide (lo' := w.heap.size) (hi' := w3.heap.size) (by omega) (Nat.le_refl _)
      clear ho_c_w3
      obtain ⟨x0_r, x1_r, x2_r, x3_r, x4_r, x5_r, x6_r, x7_r, x8_r, x9_r, xl_r⟩ := blk10 hk_r_w3
      have f0_r := (blk_cells hk_r_w3 0).2
      have f1_r := (blk_cells hk_r_w3 1).2
      have f2_r := (blk_cells hk_r_w3 2).2
      have f3_r := (blk_cells hk_r_w3 3).2
      have f4_r := (blk_cells hk_r_w3 4).2
      have f5_r := (blk_cells hk_r_w3 5).2
      have f6_r := (blk_cells hk_r_w3 6).2
      have f7_r := (blk_cells hk_r_w3 7).2
      have f8_r := (blk_cells hk_r_w3 8).2
      have f9_r := (blk_cells hk_r_w3 9).2
      go_wp2
      have hbx_r := boxAt_of hk_r_w3
      refine bodyPost_ret (v := .tuple #[.agg #[.int .i64 d1, .int .i64 f1, .slice B1 ss1.length e1, .int .i64 d2, .int .i64 f2, .slice B2q ss2.length e2, .slice B3 st.length e3, .slice B4 P.length e4, .slice B5 pp.length e5, .int .i64 m], .bool false]) (by simp [results, Tryz.results92, go_sem, *]) rfl ?_
      clear x0_r x1_r x2_r x3_r x4_r x5_r x6_r x7_r x8_r x9_r xl_r f0_r f1_r f2_r f3_r f4_r f5_r f6_r f7_r f8_r f9_r
      obtain ⟨wE, heE⟩ : ∃ x, x = ((((((((((w3.setCell ⟨w.heap.size + 1 + 1, 0, none⟩ (.int .i64 d1)).setCell ⟨w.heap.size + 1 + 1, 1, none⟩ (.int .i64 f1)).setCell ⟨w.heap.size + 1 + 1, 2, none⟩ (.slice B1 ss1.length e1)).setCell ⟨w.heap.size + 1 + 1, 3, none⟩ (.int .i64 d2)).setCell ⟨w.heap.size + 1 + 1, 4, none⟩ (.int .i64 f2)).setCell ⟨w.heap.size + 1 + 1, 5, none⟩ (.slice B2q ss2.length e2)).setCell ⟨w.heap.size + 1 + 1, 6, none⟩ (.slice B3 st.length e3)).setCell ⟨w.heap.size + 1 + 1, 7, none⟩ (.slice B4 P.length e4)).setCell ⟨w.heap.size + 1 + 1, 8, none⟩ (.slice B5 pp.length e5)).setCell ⟨w.heap.size + 1 + 1, 9, none⟩ (.int .i64 m)) := ⟨_, rfl⟩
      have hBX : Boxy w3 wE := by rw [heE]; exact boxy
      have hBW : Below w.heap.size w wE := by rw [heE]; exact bel
      have hsE : wE.heap.size = w3.heap.size := by rw [heE]; simp [World.setCell]
      rw [← heE]
      clear heE
      exact ⟨B1, e1, B2q, e2, B3, e3, B4, e4, B5, e5, rfl, (hoW.boxy hBX).wide (Nat.le_refl _) (by omega), hBW⟩
    case true =>
      have h2 : workOk ⟨⟨d1o, f1o, ss1o, d2o, f2o, ss2o, sto⟩, Po, ppo, mo⟩ = false := by rw [h1] at hn; simpa using hn
      have H1 := Lib.hid h1
      have H2 := Lib.hid h2
      clear hn h1 h2
      go_enter Tryz.func92, Tryz.ntmps92
      go_wp2_with fail
      obtain ⟨w1, he_w1⟩ : ∃ x, x = (((w.alloc (.cells #[.int .i64 d1, .int .i64 f1, .slice A1 ss1.length c1, .int .i64 d2, .int .i64 f2, .slice A2 ss2.length c2, .slice A3 st.length c3, .slice A4 P.length c4, .slice A5 pp.length c5, .int .i64 m] 41)).alloc (.cells #[.int .i64 d1o, .int .i64 f1o, .slice E1 ss1o.length g1, .int .i64 d2o, .int .i64 f2o, .slice E2 ss2o.length g2, .slice E3 sto.length g3, .slice E4 Po.length g4, .slice E5 ppo.length g5, .int .i64 mo] 41)).alloc (.cells #[.int .i64 0, .int .i64 0, .slice none 0 0, .int .i64 0, .int .i64 0, .slice none 0 0, .slice none 0 0, .slice none 0 0, .slice none 0 0, .int .i64 0] 41)) := ⟨_, rfl⟩
      have hk_a_w1 : w1.heap[w.heap.size]? = some (.cells #[.int .i64 d1, .int .i64 f1, .slice A1 ss1.length c1, .int .i64 d2, .int .i64 f2, .slice A2 ss2.length c2, .slice A3 st.length c3, .slice A4 P.length c4, .slice A5 pp.length c5, .int .i64 m] 41 (0, 0)) := by rw [he_w1]; exact (blk_alloc (blk_alloc (blk_new_at w (.cells #[.int .i64 d1, .int .i64 f1, .slice A1 ss1.length c1, .int .i64 d2, .int .i64 f2, .slice A2 ss2.length c2, .slice A3 st.length c3, .slice A4 P.length c4, .slice A5 pp.length c5, .int .i64 m] 41) (k := w.heap.size) (by simp [World.setCell])) _) _)
      have hk_b_w1 : w1.heap[w.heap.size + 1]? = some (.cells #[.int .i64 d1o, .int .i64 f1o, .slice E1 ss1o.length g1, .int .i64 d2o, .int .i64 f2o, .slice E2 ss2o.length g2, .slice E3 sto.length g3, .slice E4 Po.length g4, .slice E5 ppo.length g5, .int .i64 mo] 41 (0, 0)) := by rw [he_w1]; exact (blk_alloc (blk_new_at (w.alloc (.cells #[.int .i64 d1, .int .i64 f1, .slice A1 ss1.length c1, .int .i64 d2, .int .i64 f2, .slice A2 ss2.length c2, .slice A3 st.length c3, .slice A4 P.length c4, .slice A5 pp.length c5, .int .i64 m] 41)) (.cells #[.int .i64 d1o, .int .i64 f1o, .slice E1 ss1o.length g1, .int .i64 d2o, .int .i64 f2o, .slice E2 ss2o.length g2, .slice E3 sto.length g3, .slice E4 Po.length g4, .slice E5 ppo.length g5, .int .i64 mo] 41) (k := w.heap.size + 1) (by simp [World.setCell])) _)
      have hk_r_w1 : w1.heap[w.heap.size + 1 + 1]? = some (.cells #[.int .i64 0, .int .i64 0, .slice none 0 0, .int .i64 0, .int .i64 0, .slice none 0 0, .slice none 0 0, .slice none 0 0, .slice none 0 0, .int .i64 0] 41 (0, 0)) := by rw [he_w1]; exact (blk_new_at ((w.alloc (.cells #[.int .i64 d1, .int .i64 f1, .slice A1 ss1.length c1, .int .i64 d2, .int .i64 f2, .slice A2 ss2.length c2, .slice A3 st.length c3, .slice A4 P.length c4, .slice A5 pp.length c5, .int .i64 m] 41)).alloc (.cells #[.int .i64 d1o, .int .i64 f1o, .slice E1 ss1o.length g1, .int .i64 d2o, .int .i64 f2o, .slice E2 ss2o.length g2, .slice E3 sto.length g3, .slice E4 Po.length g4, .slice E5 ppo.length g5, .int .i64 mo] 41)) (.cells #[.int .i64 0, .int .i64 0, .slice none 0 0, .int .i64 0, .int .i64 0, .slice none 0 0, .slice none 0 0, .slice none 0 0, .slice none 0 0, .int .i64 0] 41) (k := w.heap.size + 1 + 1) (by simp [World.setCell]))
      have hbw_w1 : Below w.heap.size w w1 := by rw [he_w1]; exact bel
      have hsw_w1 := hbw_w1.size
      have hch_w1 : w.heap.size ≤ w1.heap.size := by rw [he_w1]; simp [World.setCell]; try omega
      rw [← he_w1]
      clear he_w1
      refine (i_WorkshopOk d1 f1 ss1 d2 f2 ss2 st P pp m B A1 A2 A3 A4 A5 c1 c2 c3 c4 c5 w1 (hS.below (hbw_w1.mono hB)) (Nat.le_trans hB hsw_w1)).mono ?_
      rw [H1.out]
      rintro e w2 ⟨rfl, hb_w2⟩
      have hk_a_w2 := blk_next hk_a_w1 hb_w2
      have hk_b_w2 := blk_next hk_b_w1 hb_w2
      have hk_r_w2 := blk_next hk_r_w1 hb_w2
      have hbw_w2 : Below w.heap.size w w2 := hbw_w1.trans (hb_w2.mono hsw_w1)
      have hsw_w2 := hbw_w2.size
      have hch_w2 : w1.heap.size ≤ w2.heap.size := hb_w2.size
      clear hk_a_w1 hk_b_w1 hk_r_w1 hbw_w1 hsw_w1 hb_w2
      obtain ⟨x0_b, x1_b, x2_b, x3_b, x4_b, x5_b, x6_b, x7_b, x8_b, x9_b, xl_b⟩ := blk10 hk_b_w2
      go_wp2_with fail
      clear x0_b x1_b x2_b x3_b x4_b x5_b x6_b x7_b x8_b x9_b xl_b
      refine (i_WorkshopOk d1o f1o ss1o d2o f2o ss2o sto Po ppo mo B2 E1 E2 E3 E4 E5 g1 g2 g3 g4 g5 w2 (hO.below (hbw_w2.mono hB2)) (Nat.le_trans hB2 hsw_w2)).mono ?_
      rw [H2.out]
      rintro e w3 ⟨rfl, hb_w3⟩
      have hk_a_w3 := blk_next hk_a_w2 hb_w3
      have hk_b_w3 := blk_next hk_b_w2 hb_w3
      have hk_r_w3 := blk_next hk_r_w2 hb_w3
      have hbw_w3 : Below w.heap.size w w3 := hbw_w2.trans (hb_w3.mono hsw_w2)
      have hsw_w3 := hbw_w3.size
      have hch_w3 : w2.heap.size ≤ w3.heap.size := hb_w3.size
      clear hk_a_w2 hk_b_w2 hk_r_w2 hbw_w2 hsw_w2 hb_w3
      obtain ⟨x0_a, x1_a, x2_a, x3_a, x4_a, x5_a, x6_a, x7_a, x8_a, x9_a, xl_a⟩ := blk10 hk_a_w3
      go_wp2_with fail
      clear x0_a x1_a x2_a x3_a x4_a x5_a x6_a x7_a x8_a x9_a xl_a
      refine (i_workCopied d1 f1 ss1 d2 f2 ss2 st P pp m B A1 A2 A3 A4 A5 c1 c2 c3 c4 c5 w3 (hS.below (hbw_w3.mono hB)) (Nat.le_trans hB hsw_w3)).mono ?_
      rintro e w4 ⟨B1, e1, B2q, e2, B3, e3, B4, e4, B5, e5, rfl, hon, hb_w4⟩
      have hk_a_w4 := blk_next hk_a_w3 hb_w4
      have hk_b_w4 := blk_next hk_b_w3 hb_w4
      have hk_r_w4 := blk_next hk_r_w3 hb_w4
      have hbw_w4 : Below w.heap.size w w4 := hbw_w3.trans (hb_w4.mono hsw_w3)
      have hsw_w4 := hbw_w4.size
      have hch_w4 : w3.heap.size ≤ w4.heap.size := hb_w4.size
      clear hk_a_w3 hk_b_w3 hk_r_w3 hbw_w3 hsw_w3 hb_w4
      have ho_c_w4 := hon
      clear hon
      have hoW := ho_c_w4.wide (lo' := w.heap.size) (hi' := w4.heap.size) (by omega) (Nat.le_refl _)
      clear ho_c_w4
      obtain ⟨x0_r, x1_r, x2_r, x3_r, x4_r, x5_r, x6_r, x7_r, x8_r, x9_r, xl_r⟩ := blk10 hk_r_w4
      have f0_r := (blk_cells hk_r_w4 0).2
      have f1_r := (blk_cells hk_r_w4 1).2
      have f2_r := (blk_cells hk_r_w4 2).2
      have f3_r := (blk_cells hk_r_w4 3).2
      have f4_r := (blk_cells hk_r_w4 4).2
      have f5_r := (blk_cells hk_r_w4 5).2
      have f6_r := (blk_cells hk_r_w4 6).2
      have f7_r := (blk_cells hk_r_w4 7).2
      have f8_r := (blk_cells hk_r_w4 8).2
      have f9_r := (blk_cells hk_r_w4 9).2
      go_wp2
      have hbx_r := boxAt_of hk_r_w4
      refine bodyPost_ret (v := .tuple #[.agg #[.int .i64 d1, .int .i64 f1, .slice B1 ss1.length e1, .int .i64 d2, .int .i64 f2, .slice B2q ss2.length e2, .slice B3 st.length e3, .slice B4 P.length e4, .slice B5 pp.length e5, .int .i64 m], .bool false]) (by simp [results, Tryz.results92, go_sem, *]) rfl ?_
      clear x0_r x1_r x2_r x3_r x4_r x5_r x6_r x7_r x8_r x9_r xl_r f0_r f1_r f2_r f3_r f4_r f5_r f6_r f7_r f8_r f9_r
      obtain ⟨wE, heE⟩ : ∃ x, x = ((((((((((w4.setCell ⟨w.heap.size + 1 + 1, 0, none⟩ (.int .i64 d1)).setCell ⟨w.heap.size + 1 + 1, 1, none⟩ (.int .i64 f1)).setCell ⟨w.heap.size + 1 + 1, 2, none⟩ (.slice B1 ss1.length e1)).setCell ⟨w.heap.size + 1 + 1, 3, none⟩ (.int .i64 d2)).setCell ⟨w.heap.size + 1 + 1, 4, none⟩ (.int .i64 f2)).setCell ⟨w.heap.size + 1 + 1, 5, none⟩ (.slice B2q ss2.length e2)).setCell ⟨w.heap.size + 1 + 1, 6, none⟩ (.slice B3 st.length e3)).setCell ⟨w.heap.size + 1 + 1, 7, none⟩ (.slice B4 P.length e4)).setCell ⟨w.heap.size + 1 + 1, 8, none⟩ (.slice B5 pp.length e5)).setCell ⟨w.heap.size + 1 + 1, 9, none⟩ (.int .i64 m)) := ⟨_, rfl⟩
      have hBX : Boxy w4 wE := by rw [heE]; exact boxy
      have hBW : Below w.heap.size w wE := by rw [heE]; exact bel
      have hsE : wE.heap.size = w4.heap.size := by rw [heE]; simp [World.setCell]
      rw [← heE]
      clear heE
      exact ⟨B1, e1, B2q, e2, B3, e3, B4, e4, B5, e5, rfl, (hoW.boxy hBX).wide (Nat.le_refl _) (by omega), hBW⟩
end Go.Proofs.YtdddglihomchfaaGreat
namespace Go.Proofs.YtdddglihomchfaaGreat
open Go.ChangeShapes Go.WideShapes Go.ChangeAt Go.RowKit
set_option linter.unusedVariables false
set_option linter.unusedSimpArgs false
set_option maxRecDepth 10000
theorem added_cat {P : List PItem} {x : PItem} (h : (added P x).2 = true) : catOk (added P x).1 = true := by
  obtain ⟨j, hj⟩ : ∃ j, posOf P x.nm = j := ⟨_, rfl⟩
  cases hc : catOk P with
  | false => rw [added_no1 hc] at h; cases h
  | true =>
    cases hi : catOk (insP P x j) with
    | false => rw [added_no2 hj hi] at h; cases h
    | true => rw [added_yes hj hc hi]; exact hi
end Go.Proofs.YtdddglihomchfaaGreat
namespace Go.Proofs.YtdddglihomchfaaGreat
open Go.ChangeShapes Go.WideShapes Go.ChangeAt Go.RowKit
set_option linter.unusedVariables false
set_option linter.unusedSimpArgs false
set_option maxRecDepth 10000
theorem uwb_cast {W : PWork} {b : Bool} {q : PWork × Bool} {w w' : World} {e : Ending} (h : q = (W, b)) (hu : UWorkB W.D.d1 W.D.f1 W.D.ss1 W.D.d2 W.D.f2 W.D.ss2 W.D.st W.P W.pp W.m b w e w') : UWorkB q.1.D.d1 q.1.D.f1 q.1.D.ss1 q.1.D.d2 q.1.D.f2 q.1.D.ss2 q.1.D.st q.1.P q.1.pp q.1.m q.2 w e w' := by subst h; exact hu
def shapeRes (W : PWork) (s : PStep) : PWork × Bool := if workOk W = true ∧ 1 ≤ W.m ∧ (doRes W.D s).2 = true then (⟨(doRes W.D s).1, W.P, W.pp, W.m - 1⟩, true) else (W, false)
def unshapeRes (W : PWork) : PWork × Bool := if workOk W = true ∧ (undoRes W.D).2 = true then (⟨(undoRes W.D).1, W.P, W.pp, W.m⟩, true) else (W, false)
def forgetRes (W : PWork) (nm : ByteArray) : PWork × Bool := if workOk W = true ∧ (dropped W.P nm).2 = true then (⟨W.D, (dropped W.P nm).1, W.pp, W.m⟩, true) else (W, false)
def keepRes (W : PWork) (nm : ByteArray) : PWork × Bool := if workOk W = true ∧ (added W.P ⟨nm, W.D.d2, W.D.f2, W.D.ss2⟩).2 = true then (⟨W.D, (added W.P ⟨nm, W.D.d2, W.D.f2, W.D.ss2⟩).1, W.pp, W.m⟩, true) else (W, false)
theorem workOk_P {W : PWork} {P : List PItem} (h : workOk W = true) (hd : catOk P = true) : workOk ⟨W.D, P, W.pp, W.m⟩ = true := by rw [workOk_iff] at *; exact ⟨h.1, hd, h.2.2⟩
theorem keep_yes {W : PWork} {nm : ByteArray} (h : ((added W.P ⟨nm, W.D.d2, W.D.f2, W.D.ss2⟩).2 && (workOk W && workOk ⟨W.D, (added W.P ⟨nm, W.D.d2, W.D.f2, W.D.ss2⟩).1, W.pp, W.m⟩)) = true) : (added W.P ⟨nm, W.D.d2, W.D.f2, W.D.ss2⟩).2 = true ∧ workOk W = true ∧ workOk ⟨W.D, (added W.P ⟨nm, W.D.d2, W.D.f2, W.D.ss2⟩).1, W.pp, W.m⟩ = true ∧ keepRes W nm = (⟨W.D, (added W.P ⟨nm, W.D.d2, W.D.f2, W.D.ss2⟩).1, W.pp, W.m⟩, true) := by
  simp only [Bool.and_eq_true] at h
  refine ⟨h.1, h.2.1, h.2.2, ?_⟩
  unfold keepRes
  rw [if_pos ⟨h.2.1, h.1⟩]
theorem keep_no {W : PWork} {nm : ByteArray} (h : ((added W.P ⟨nm, W.D.d2, W.D.f2, W.D.ss2⟩).2 && (workOk W && workOk ⟨W.D, (added W.P ⟨nm, W.D.d2, W.D.f2, W.D.ss2⟩).1, W.pp, W.m⟩)) = false) : keepRes W nm = (W, false) := by
  unfold keepRes
  split
  · rename_i hc
    rw [hc.1, hc.2, workOk_P hc.1 (added_cat hc.2)] at h
    cases h
  · rfl
theorem keep_s1 {W : PWork} {nm : ByteArray} (h : workOk W = false) : keepRes W nm = (W, false) := by unfold keepRes; rw [h]; simp
theorem keep_s3 {W : PWork} {nm : ByteArray} (h : (added W.P ⟨nm, W.D.d2, W.D.f2, W.D.ss2⟩).2 = false) : keepRes W nm = (W, false) := by unfold keepRes; rw [h]; simp
theorem keep_s4 {W : PWork} {nm : ByteArray} (h1 : workOk W = true) (h3 : (added W.P ⟨nm, W.D.d2, W.D.f2, W.D.ss2⟩).2 = true) : keepRes W nm = (⟨W.D, (added W.P ⟨nm, W.D.d2, W.D.f2, W.D.ss2⟩).1, W.pp, W.m⟩, true) := by unfold keepRes; rw [if_pos ⟨h1, h3⟩]
theorem keepRes_ok (W : PWork) (nm : ByteArray) (h : OkWork W.D W.P W.pp 1048576) (hn : nm.size ≤ 16777216) : OkWork (keepRes W nm).1.D (keepRes W nm).1.P (keepRes W nm).1.pp 1048576 := by
  unfold keepRes
  split
  · exact ⟨h.d, added_ok _ _ _ h.i ⟨h.d.l2, h.d.z2, hn⟩ (by omega), h.p⟩
  · exact h
end Go.Proofs.YtdddglihomchfaaGreat
