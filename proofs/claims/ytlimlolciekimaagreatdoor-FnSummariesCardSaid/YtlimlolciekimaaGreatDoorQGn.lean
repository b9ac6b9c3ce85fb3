/- Contracts of the program's and the reference's functions (Work1, WPlain, Work2, Work3, Work4, Work6). -/
import Derived.Deep.RegionHeld3
import Derived.Deep.RegionLaw
import Derived.Test.YtlimlolciekimaaGreatDoorRows
import Derived.Test.YtlimlolciekimaaGreatDoorQGm
import Derived.Test.YtlimlolciekimaaGreatDoorQGf
import Derived.Test.YtlimlolciekimaaGreatDoorQGk
import Derived.Test.YtlimlolciekimaaGreatDoorQGj
import Derived.Test.YtlimlolciekimaaGreatDoorQGl
import Derived.Test.YtlimlolciekimaaGreatDoorQGi
namespace Go.Proofs.YtlimlolciekimaaGreatDoor
open Go.ChangeShapes Go.WideShapes Go.ChangeAt Go.RowKit
set_option linter.unusedVariables false
set_option linter.unusedSimpArgs false
set_option maxRecDepth 10000
structure PWork where
  (D : PDraft) (P : List PItem) (pp : List PPaper) (m : Int)
def workOk (W : PWork) : Bool := draftOk W.D && (catOk W.P && (decide (W.pp.length ≤ 20) && (papOk W.pp && inB W.m 0 1000000)))
theorem workOk_iff {W : PWork} : workOk W = true ↔ draftOk W.D = true ∧ catOk W.P = true ∧ W.pp.length ≤ 20 ∧ papOk W.pp = true ∧ 0 ≤ W.m ∧ W.m ≤ 1000000 := by
  unfold workOk
  simp only [Bool.and_eq_true, decide_eq_true_eq, inB_iff']
theorem workOk_no1 {W : PWork} (h : draftOk W.D = false) : workOk W = false := by unfold workOk; rw [h]; rfl
theorem workOk_no2 {W : PWork} (h : catOk W.P = false) : workOk W = false := by unfold workOk; rw [h]; simp
theorem workOk_no3 {W : PWork} (h : ¬ W.pp.length ≤ 20) : workOk W = false := by unfold workOk; rw [decide_eq_false h]; simp
theorem workOk_no4 {W : PWork} (h : papOk W.pp = false) : workOk W = false := by unfold workOk; rw [h]; simp
theorem workOk_yes {W : PWork} (h1 : draftOk W.D = true) (h2 : catOk W.P = true) (h3 : W.pp.length ≤ 20) (h4 : papOk W.pp = true) : workOk W = inB W.m 0 1000000 := by unfold workOk; rw [h1, h2, h4, decide_eq_true h3]; rfl
set_option maxHeartbeats 3200000 in
theorem i_WorkshopOk (d1 f1 : Int) (ss1 : List ByteArray) (d2 f2 : Int) (ss2 : List ByteArray) (st : List PStep) (P : List PItem) (pp : List PPaper) (m : Int) (B : Nat) (A1 A2 A3 A4 A5 : Option Addr) (c1 c2 c3 c4 c5 : Nat) (w : World) (hS : RdWork w B A1 A2 A3 A4 c4 A5 ⟨d1, f1, ss1, d2, f2, ss2, st⟩ P pp) (hB : B ≤ w.heap.size) :
    Calls Tryz.prog 40 #[.agg #[.int .i64 d1, .int .i64 f1, .slice A1 ss1.length c1, .int .i64 d2, .int .i64 f2, .slice A2 ss2.length c2, .slice A3 st.length c3, .slice A4 P.length c4, .slice A5 pp.length c5, .int .i64 m]] w fun e w' => e = .returned (.bool (workOk ⟨⟨d1, f1, ss1, d2, f2, ss2, st⟩, P, pp, m⟩)) ∧ Below w.heap.size w w' := by
  have hS2 := hS.alloc hB (.cells #[.int .i64 d1, .int .i64 f1, .slice A1 ss1.length c1, .int .i64 d2, .int .i64 f2, .slice A2 ss2.length c2, .slice A3 st.length c3, .slice A4 P.length c4, .slice A5 pp.length c5, .int .i64 m] 33)
  have hka := blk_new w (.cells #[.int .i64 d1, .int .i64 f1, .slice A1 ss1.length c1, .int .i64 d2, .int .i64 f2, .slice A2 ss2.length c2, .slice A3 st.length c3, .slice A4 P.length c4, .slice A5 pp.length c5, .int .i64 m] 33)
  obtain ⟨L, hpl, hL⟩ := hS.i
  have HPL := Lib.hid hpl
  have hpn := hS.p.nb
  clear hpl
  cases h1 : draftOk ⟨d1, f1, ss1, d2, f2, ss2, st⟩
  · have HR := Lib.hid (workOk_no1 (W := (PWork.mk ⟨d1, f1, ss1, d2, f2, ss2, st⟩ P pp m)) h1)
    have H1 := Lib.hid h1
    clear h1
    go_enter Tryz.func40, Tryz.ntmps40
    go_wp2_with (first | (go_at_call 82; refine (i_DraftOk ⟨d1, f1, ss1, d2, f2, ss2, st⟩ B A1 A2 A3 c1 c2 c3 _ (hS2.d) (by simp; omega)).mono ?_; rw [H1.out]; rintro e w1 ⟨rfl, hb1⟩; (have hbw1 : Below w.heap.size w w1 := ((Below.refl _ _).alloc (Nat.le_refl _) _).trans (hb1.mono (by simp))); (have hk1 := blk_next hka hb1); obtain ⟨hx0, hx1, hx2, hx3, hx4, hx5, hx6, hx7, hx8, hx9, hxl⟩ := blk10 hk1))
    go_ret
    exact ⟨ret_bool HR.out.symm, hbw1⟩
  · cases h2 : catOk P
    · have HR := Lib.hid (workOk_no2 (W := (PWork.mk ⟨d1, f1, ss1, d2, f2, ss2, st⟩ P pp m)) h2)
      have H1 := Lib.hid h1
      have H2 := Lib.hid h2
      clear h1 h2
      go_enter Tryz.func40, Tryz.ntmps40
      go_wp2_with (first | (go_at_call 82; refine (i_DraftOk ⟨d1, f1, ss1, d2, f2, ss2, st⟩ B A1 A2 A3 c1 c2 c3 _ (hS2.d) (by simp; omega)).mono ?_; rw [H1.out]; rintro e w1 ⟨rfl, hb1⟩; (have hbw1 : Below w.heap.size w w1 := ((Below.refl _ _).alloc (Nat.le_refl _) _).trans (hb1.mono (by simp))); (have hk1 := blk_next hka hb1); obtain ⟨hx0, hx1, hx2, hx3, hx4, hx5, hx6, hx7, hx8, hx9, hxl⟩ := blk10 hk1) | (go_at_call 83; refine (i_CatalogOk P B A4 P.length c4 L _ HPL.out (hL.below (hbw1.mono hB)) (Nat.le_trans hB hbw1.size)).mono ?_; rw [H2.out]; rintro e w2 ⟨rfl, hb2⟩; (have hbw2 : Below w.heap.size w w2 := hbw1.trans (hb2.mono hbw1.size)); (have hk2 := blk_next hk1 hb2); clear hx0 hx1 hx2 hx3 hx4 hx5 hx6 hx7 hx8 hx9 hxl; obtain ⟨hx0, hx1, hx2, hx3, hx4, hx5, hx6, hx7, hx8, hx9, hxl⟩ := blk10 hk2))
      go_ret
      exact ⟨ret_bool HR.out.symm, hbw2⟩
    · by_cases h3 : pp.length ≤ 20
      · cases h4 : papOk pp
        · have hi3 : (pp.length : Int) ≤ 20 := by omega
          have HR := Lib.hid (workOk_no4 (W := (PWork.mk ⟨d1, f1, ss1, d2, f2, ss2, st⟩ P pp m)) h4)
          have H1 := Lib.hid h1
          have H2 := Lib.hid h2
          have H4 := Lib.hid h4
          clear h1 h2 h4
          go_enter Tryz.func40, Tryz.ntmps40
          go_wp2_with (first | (go_at_call 82; refine (i_DraftOk ⟨d1, f1, ss1, d2, f2, ss2, st⟩ B A1 A2 A3 c1 c2 c3 _ (hS2.d) (by simp; omega)).mono ?_; rw [H1.out]; rintro e w1 ⟨rfl, hb1⟩; (have hbw1 : Below w.heap.size w w1 := ((Below.refl _ _).alloc (Nat.le_refl _) _).trans (hb1.mono (by simp))); (have hk1 := blk_next hka hb1); obtain ⟨hx0, hx1, hx2, hx3, hx4, hx5, hx6, hx7, hx8, hx9, hxl⟩ := blk10 hk1) | (go_at_call 83; refine (i_CatalogOk P B A4 P.length c4 L _ HPL.out (hL.below (hbw1.mono hB)) (Nat.le_trans hB hbw1.size)).mono ?_; rw [H2.out]; rintro e w2 ⟨rfl, hb2⟩; (have hbw2 : Below w.heap.size w w2 := hbw1.trans (hb2.mono hbw1.size)); (have hk2 := blk_next hk1 hb2); clear hx0 hx1 hx2 hx3 hx4 hx5 hx6 hx7 hx8 hx9 hxl; obtain ⟨hx0, hx1, hx2, hx3, hx4, hx5, hx6, hx7, hx8, hx9, hxl⟩ := blk10 hk2) | (go_at_call 67; refine (i_arePapers pp B A5 pp.length c5 _ (hS.p.below (hbw2.mono hB)) (Nat.le_trans hB hbw2.size)).mono ?_; rw [H4.out]; rintro e w3 ⟨rfl, hb3⟩; (have hbw3 : Below w.heap.size w w3 := hbw2.trans (hb3.mono hbw2.size)); (have hk3 := blk_next hk2 hb3); clear hx0 hx1 hx2 hx3 hx4 hx5 hx6 hx7 hx8 hx9 hxl; obtain ⟨hx0, hx1, hx2, hx3, hx4, hx5, hx6, hx7, hx8, hx9, hxl⟩ := blk10 hk3))
          go_ret
          exact ⟨ret_bool HR.out.symm, hbw3⟩
        · have hi3 : (pp.length : Int) ≤ 20 := by omega
          have HR := Lib.hid (workOk_yes (W := (PWork.mk ⟨d1, f1, ss1, d2, f2, ss2, st⟩ P pp m)) h1 h2 h3 h4)
          have H1 := Lib.hid h1
          have H2 := Lib.hid h2
          have H4 := Lib.hid h4
          clear h1 h2 h4
          go_enter Tryz.func40, Tryz.ntmps40
          go_wp2_with (first | (go_at_call 82; refine (i_DraftOk ⟨d1, f1, ss1, d2, f2, ss2, st⟩ B A1 A2 A3 c1 c2 c3 _ (hS2.d) (by simp; omega)).mono ?_; rw [H1.out]; rintro e w1 ⟨rfl, hb1⟩; (have hbw1 : Below w.heap.size w w1 := ((Below.refl _ _).alloc (Nat.le_refl _) _).trans (hb1.mono (by simp))); (have hk1 := blk_next hka hb1); obtain ⟨hx0, hx1, hx2, hx3, hx4, hx5, hx6, hx7, hx8, hx9, hxl⟩ := blk10 hk1) | (go_at_call 83; refine (i_CatalogOk P B A4 P.length c4 L _ HPL.out (hL.below (hbw1.mono hB)) (Nat.le_trans hB hbw1.size)).mono ?_; rw [H2.out]; rintro e w2 ⟨rfl, hb2⟩; (have hbw2 : Below w.heap.size w w2 := hbw1.trans (hb2.mono hbw1.size)); (have hk2 := blk_next hk1 hb2); clear hx0 hx1 hx2 hx3 hx4 hx5 hx6 hx7 hx8 hx9 hxl; obtain ⟨hx0, hx1, hx2, hx3, hx4, hx5, hx6, hx7, hx8, hx9, hxl⟩ := blk10 hk2) | (go_at_call 67; refine (i_arePapers pp B A5 pp.length c5 _ (hS.p.below (hbw2.mono hB)) (Nat.le_trans hB hbw2.size)).mono ?_; rw [H4.out]; rintro e w3 ⟨rfl, hb3⟩; (have hbw3 : Below w.heap.size w w3 := hbw2.trans (hb3.mono hbw2.size)); (have hk3 := blk_next hk2 hb3); clear hx0 hx1 hx2 hx3 hx4 hx5 hx6 hx7 hx8 hx9 hxl; obtain ⟨hx0, hx1, hx2, hx3, hx4, hx5, hx6, hx7, hx8, hx9, hxl⟩ := blk10 hk3) | (go_at_call 71; refine (i_within _ _ _ _).mono ?_; rintro e w' ⟨rfl, rfl⟩))
          go_ret
          exact ⟨ret_bool HR.out.symm, hbw3⟩
      · have hi3 : ¬ (pp.length : Int) ≤ 20 := by omega
        have HR := Lib.hid (workOk_no3 (W := (PWork.mk ⟨d1, f1, ss1, d2, f2, ss2, st⟩ P pp m)) h3)
        have H1 := Lib.hid h1
        have H2 := Lib.hid h2
        clear h1 h2
        go_enter Tryz.func40, Tryz.ntmps40
        go_wp2_with (first | (go_at_call 82; refine (i_DraftOk ⟨d1, f1, ss1, d2, f2, ss2, st⟩ B A1 A2 A3 c1 c2 c3 _ (hS2.d) (by simp; omega)).mono ?_; rw [H1.out]; rintro e w1 ⟨rfl, hb1⟩; (have hbw1 : Below w.heap.size w w1 := ((Below.refl _ _).alloc (Nat.le_refl _) _).trans (hb1.mono (by simp))); (have hk1 := blk_next hka hb1); obtain ⟨hx0, hx1, hx2, hx3, hx4, hx5, hx6, hx7, hx8, hx9, hxl⟩ := blk10 hk1) | (go_at_call 83; refine (i_CatalogOk P B A4 P.length c4 L _ HPL.out (hL.below (hbw1.mono hB)) (Nat.le_trans hB hbw1.size)).mono ?_; rw [H2.out]; rintro e w2 ⟨rfl, hb2⟩; (have hbw2 : Below w.heap.size w w2 := hbw1.trans (hb2.mono hbw1.size)); (have hk2 := blk_next hk1 hb2); clear hx0 hx1 hx2 hx3 hx4 hx5 hx6 hx7 hx8 hx9 hxl; obtain ⟨hx0, hx1, hx2, hx3, hx4, hx5, hx6, hx7, hx8, hx9, hxl⟩ := blk10 hk2))
        go_ret
        exact ⟨ret_bool HR.out.symm, hbw2⟩
set_option maxHeartbeats 3200000 in
theorem s_WorkshopOk (d1 f1 : Int) (ss1 : List ByteArray) (d2 f2 : Int) (ss2 : List ByteArray) (st : List PStep) (P : List PItem) (pp : List PPaper) (m : Int) (B : Nat) (A1 A2 A3 A4 A5 : Option Addr) (c1 c2 c3 c4 c5 : Nat) (w : World) (hS : RdWork w B A1 A2 A3 A4 c4 A5 ⟨d1, f1, ss1, d2, f2, ss2, st⟩ P pp) (hB : B ≤ w.heap.size) :
    Calls Tryz.prog 47 #[.agg #[.int .i64 d1, .int .i64 f1, .slice A1 ss1.length c1, .int .i64 d2, .int .i64 f2, .slice A2 ss2.length c2, .slice A3 st.length c3, .slice A4 P.length c4, .slice A5 pp.length c5, .int .i64 m]] w fun e w' => e = .returned (.bool (workOk ⟨⟨d1, f1, ss1, d2, f2, ss2, st⟩, P, pp, m⟩)) ∧ Below w.heap.size w w' := by
  have hS2 := hS.alloc hB (.cells #[.int .i64 d1, .int .i64 f1, .slice A1 ss1.length c1, .int .i64 d2, .int .i64 f2, .slice A2 ss2.length c2, .slice A3 st.length c3, .slice A4 P.length c4, .slice A5 pp.length c5, .int .i64 m] 33)
  have hka := blk_new w (.cells #[.int .i64 d1, .int .i64 f1, .slice A1 ss1.length c1, .int .i64 d2, .int .i64 f2, .slice A2 ss2.length c2, .slice A3 st.length c3, .slice A4 P.length c4, .slice A5 pp.length c5, .int .i64 m] 33)
  obtain ⟨L, hpl, hL⟩ := hS.i
  have HPL := Lib.hid hpl
  have hpn := hS.p.nb
  clear hpl
  cases h1 : draftOk ⟨d1, f1, ss1, d2, f2, ss2, st⟩
  · have HR := Lib.hid (workOk_no1 (W := (PWork.mk ⟨d1, f1, ss1, d2, f2, ss2, st⟩ P pp m)) h1)
    have H1 := Lib.hid h1
    clear h1
    go_enter Tryz.func47, Tryz.ntmps47
    go_wp2_with (first | (go_at_call 92; refine (s_DraftOk ⟨d1, f1, ss1, d2, f2, ss2, st⟩ B A1 A2 A3 c1 c2 c3 _ (hS2.d) (by simp; omega)).mono ?_; rw [H1.out]; rintro e w1 ⟨rfl, hb1⟩; (have hbw1 : Below w.heap.size w w1 := ((Below.refl _ _).alloc (Nat.le_refl _) _).trans (hb1.mono (by simp))); (have hk1 := blk_next hka hb1); obtain ⟨hx0, hx1, hx2, hx3, hx4, hx5, hx6, hx7, hx8, hx9, hxl⟩ := blk10 hk1))
    go_ret
    exact ⟨ret_bool HR.out.symm, hbw1⟩
  · cases h2 : catOk P
    · have HR := Lib.hid (workOk_no2 (W := (PWork.mk ⟨d1, f1, ss1, d2, f2, ss2, st⟩ P pp m)) h2)
      have H1 := Lib.hid h1
      have H2 := Lib.hid h2
      clear h1 h2
      go_enter Tryz.func47, Tryz.ntmps47
      go_wp2_with (first | (go_at_call 92; refine (s_DraftOk ⟨d1, f1, ss1, d2, f2, ss2, st⟩ B A1 A2 A3 c1 c2 c3 _ (hS2.d) (by simp; omega)).mono ?_; rw [H1.out]; rintro e w1 ⟨rfl, hb1⟩; (have hbw1 : Below w.heap.size w w1 := ((Below.refl _ _).alloc (Nat.le_refl _) _).trans (hb1.mono (by simp))); (have hk1 := blk_next hka hb1); obtain ⟨hx0, hx1, hx2, hx3, hx4, hx5, hx6, hx7, hx8, hx9, hxl⟩ := blk10 hk1) | (go_at_call 93; refine (s_CatalogOk P B A4 P.length c4 L _ HPL.out (hL.below (hbw1.mono hB)) (Nat.le_trans hB hbw1.size)).mono ?_; rw [H2.out]; rintro e w2 ⟨rfl, hb2⟩; (have hbw2 : Below w.heap.size w w2 := hbw1.trans (hb2.mono hbw1.size)); (have hk2 := blk_next hk1 hb2); clear hx0 hx1 hx2 hx3 hx4 hx5 hx6 hx7 hx8 hx9 hxl; obtain ⟨hx0, hx1, hx2, hx3, hx4, hx5, hx6, hx7, hx8, hx9, hxl⟩ := blk10 hk2))
      go_ret
      exact ⟨ret_bool HR.out.symm, hbw2⟩
    · cases h4 : papOk pp
      · have HR := Lib.hid (workOk_no4 (W := (PWork.mk ⟨d1, f1, ss1, d2, f2, ss2, st⟩ P pp m)) h4)
        have H1 := Lib.hid h1
        have H2 := Lib.hid h2
        have H4 := Lib.hid h4
        clear h1 h2 h4
        go_enter Tryz.func47, Tryz.ntmps47
        go_wp2_with (first | (go_at_call 92; refine (s_DraftOk ⟨d1, f1, ss1, d2, f2, ss2, st⟩ B A1 A2 A3 c1 c2 c3 _ (hS2.d) (by simp; omega)).mono ?_; rw [H1.out]; rintro e w1 ⟨rfl, hb1⟩; (have hbw1 : Below w.heap.size w w1 := ((Below.refl _ _).alloc (Nat.le_refl _) _).trans (hb1.mono (by simp))); (have hk1 := blk_next hka hb1); obtain ⟨hx0, hx1, hx2, hx3, hx4, hx5, hx6, hx7, hx8, hx9, hxl⟩ := blk10 hk1) | (go_at_call 93; refine (s_CatalogOk P B A4 P.length c4 L _ HPL.out (hL.below (hbw1.mono hB)) (Nat.le_trans hB hbw1.size)).mono ?_; rw [H2.out]; rintro e w2 ⟨rfl, hb2⟩; (have hbw2 : Below w.heap.size w w2 := hbw1.trans (hb2.mono hbw1.size)); (have hk2 := blk_next hk1 hb2); clear hx0 hx1 hx2 hx3 hx4 hx5 hx6 hx7 hx8 hx9 hxl; obtain ⟨hx0, hx1, hx2, hx3, hx4, hx5, hx6, hx7, hx8, hx9, hxl⟩ := blk10 hk2) | (go_at_call 94; refine (s_l23Ok pp B A5 pp.length c5 _ (hS.p.below (hbw2.mono hB)) (Nat.le_trans hB hbw2.size)).mono ?_; rw [H4.out]; rintro e w3 ⟨rfl, hb3⟩; (have hbw3 : Below w.heap.size w w3 := hbw2.trans (hb3.mono hbw2.size)); (have hk3 := blk_next hk2 hb3); clear hx0 hx1 hx2 hx3 hx4 hx5 hx6 hx7 hx8 hx9 hxl; obtain ⟨hx0, hx1, hx2, hx3, hx4, hx5, hx6, hx7, hx8, hx9, hxl⟩ := blk10 hk3))
        go_ret
        exact ⟨ret_bool HR.out.symm, hbw3⟩
      · by_cases h3 : pp.length ≤ 20
        · have hi3 : (pp.length : Int) ≤ 20 := by omega
          have HR := Lib.hid (workOk_yes (W := (PWork.mk ⟨d1, f1, ss1, d2, f2, ss2, st⟩ P pp m)) h1 h2 h3 h4)
          have H1 := Lib.hid h1
          have H2 := Lib.hid h2
          have H4 := Lib.hid h4
          clear h1 h2 h4
          go_enter Tryz.func47, Tryz.ntmps47
          go_wp2_with (first | (go_at_call 92; refine (s_DraftOk ⟨d1, f1, ss1, d2, f2, ss2, st⟩ B A1 A2 A3 c1 c2 c3 _ (hS2.d) (by simp; omega)).mono ?_; rw [H1.out]; rintro e w1 ⟨rfl, hb1⟩; (have hbw1 : Below w.heap.size w w1 := ((Below.refl _ _).alloc (Nat.le_refl _) _).trans (hb1.mono (by simp))); (have hk1 := blk_next hka hb1); obtain ⟨hx0, hx1, hx2, hx3, hx4, hx5, hx6, hx7, hx8, hx9, hxl⟩ := blk10 hk1) | (go_at_call 93; refine (s_CatalogOk P B A4 P.length c4 L _ HPL.out (hL.below (hbw1.mono hB)) (Nat.le_trans hB hbw1.size)).mono ?_; rw [H2.out]; rintro e w2 ⟨rfl, hb2⟩; (have hbw2 : Below w.heap.size w w2 := hbw1.trans (hb2.mono hbw1.size)); (have hk2 := blk_next hk1 hb2); clear hx0 hx1 hx2 hx3 hx4 hx5 hx6 hx7 hx8 hx9 hxl; obtain ⟨hx0, hx1, hx2, hx3, hx4, hx5, hx6, hx7, hx8, hx9, hxl⟩ := blk10 hk2) | (go_at_call 94; refine (s_l23Ok pp B A5 pp.length c5 _ (hS.p.below (hbw2.mono hB)) (Nat.le_trans hB hbw2.size)).mono ?_; rw [H4.out]; rintro e w3 ⟨rfl, hb3⟩; (have hbw3 : Below w.heap.size w w3 := hbw2.trans (hb3.mono hbw2.size)); (have hk3 := blk_next hk2 hb3); clear hx0 hx1 hx2 hx3 hx4 hx5 hx6 hx7 hx8 hx9 hxl; obtain ⟨hx0, hx1, hx2, hx3, hx4, hx5, hx6, hx7, hx8, hx9, hxl⟩ := blk10 hk3) | (go_at_call 95; refine (s_l01In _ _ _ _).mono ?_; rintro e w' ⟨rfl, rfl⟩))
          go_ret
          exact ⟨ret_bool HR.out.symm, hbw3⟩
        · have hi3 : ¬ (pp.length : Int) ≤ 20 := by omega
          have HR := Lib.hid (workOk_no3 (W := (PWork.mk ⟨d1, f1, ss1, d2, f2, ss2, st⟩ P pp m)) h3)
          have H1 := Lib.hid h1
          have H2 := Lib.hid h2
          have H4 := Lib.hid h4
          clear h1 h2 h4
          go_enter Tryz.func47, Tryz.ntmps47
          go_wp2_with (first | (go_at_call 92; refine (s_DraftOk ⟨d1, f1, ss1, d2, f2, ss2, st⟩ B A1 A2 A3 c1 c2 c3 _ (hS2.d) (by simp; omega)).mono ?_; rw [H1.out]; rintro e w1 ⟨rfl, hb1⟩; (have hbw1 : Below w.heap.size w w1 := ((Below.refl _ _).alloc (Nat.le_refl _) _).trans (hb1.mono (by simp))); (have hk1 := blk_next hka hb1); obtain ⟨hx0, hx1, hx2, hx3, hx4, hx5, hx6, hx7, hx8, hx9, hxl⟩ := blk10 hk1) | (go_at_call 93; refine (s_CatalogOk P B A4 P.length c4 L _ HPL.out (hL.below (hbw1.mono hB)) (Nat.le_trans hB hbw1.size)).mono ?_; rw [H2.out]; rintro e w2 ⟨rfl, hb2⟩; (have hbw2 : Below w.heap.size w w2 := hbw1.trans (hb2.mono hbw1.size)); (have hk2 := blk_next hk1 hb2); clear hx0 hx1 hx2 hx3 hx4 hx5 hx6 hx7 hx8 hx9 hxl; obtain ⟨hx0, hx1, hx2, hx3, hx4, hx5, hx6, hx7, hx8, hx9, hxl⟩ := blk10 hk2) | (go_at_call 94; refine (s_l23Ok pp B A5 pp.length c5 _ (hS.p.below (hbw2.mono hB)) (Nat.le_trans hB hbw2.size)).mono ?_; rw [H4.out]; rintro e w3 ⟨rfl, hb3⟩; (have hbw3 : Below w.heap.size w w3 := hbw2.trans (hb3.mono hbw2.size)); (have hk3 := blk_next hk2 hb3); clear hx0 hx1 hx2 hx3 hx4 hx5 hx6 hx7 hx8 hx9 hxl; obtain ⟨hx0, hx1, hx2, hx3, hx4, hx5, hx6, hx7, hx8, hx9, hxl⟩ := blk10 hk3))
          go_ret
          exact ⟨ret_bool HR.out.symm, hbw3⟩
end Go.Proofs.YtlimlolciekimaaGreatDoor
namespace Go.Proofs.YtlimlolciekimaaGreatDoor
open Go.ChangeShapes Go.WideShapes Go.ChangeAt Go.RowKit
set_option linter.unusedVariables false
set_option linter.unusedSimpArgs false
set_option maxRecDepth 10000
theorem runSteps_append {d f : Int} (l m : List PStep) : ∀ (ss : List ByteArray), runSteps d f (l ++ m) ss = (runSteps d f l ss).bind (runSteps d f m) := by
  induction l with
  | nil => intro ss; rfl
  | cons x l ih =>
    intro ss
    simp only [List.cons_append, runSteps]
    split
    · exact ih _
    · rfl
theorem runSteps_one {d f : Int} (s : PStep) (ss : List ByteArray) : runSteps d f [s] ss = if (stepRes true d f ss s.K s.F s.L s.T s.I s.b s.a).2 = true then some (stepRes true d f ss s.K s.F s.L s.T s.I s.b s.a).1 else none := rfl
theorem sameCard_iff {d f d2 f2 : Int} {ss ts : List ByteArray} : sameCard d f d2 f2 ss ts = true ↔ d = d2 ∧ f = f2 ∧ ss = ts := by
  unfold sameCard eqSS
  simp
theorem draftOk_iff {D : PDraft} : draftOk D = true ↔ (cardOk D.d1 D.f1 D.ss1 = true ∧ D.st.length ≤ 40) ∧ D.d1 = D.d2 ∧ D.f1 = D.f2 ∧ runSteps D.d1 D.f1 D.st D.ss1 = some D.ss2 := by
  unfold draftOk
  simp only [Bool.and_eq_true, decide_eq_true_eq]
  constructor
  · rintro ⟨h1, h2⟩
    refine ⟨h1, ?_⟩
    split at h2
    · rename_i sn hr
      obtain ⟨a, b, c⟩ := sameCard_iff.1 h2
      exact ⟨a, b, by rw [hr, c]⟩
    · cases h2
  · rintro ⟨h1, h2, h3, h4⟩
    refine ⟨h1, ?_⟩
    rw [h4]
    exact sameCard_iff.2 ⟨h2, h3, rfl⟩
theorem doRes_draft {D : PDraft} {s : PStep} (h : (doRes D s).2 = true) : draftOk (doRes D s).1 = true := by
  unfold doRes at h ⊢
  split at h
  · rename_i hc
    rw [if_pos hc]
    obtain ⟨⟨h1, h2⟩, h3, h4, h5⟩ := draftOk_iff.1 hc.1.1
    rw [draftOk_iff]
    refine ⟨⟨h1, ?_⟩, h3, h4, ?_⟩
    · have := hc.1.2
      simp
      omega
    · show runSteps D.d1 D.f1 (D.st ++ [s]) D.ss1 = _
      rw [runSteps_append, h5]
      show runSteps D.d1 D.f1 [s] D.ss2 = _
      rw [runSteps_one, h3, h4, if_pos hc.2]
  · cases h
theorem bytesLess_trans : ∀ {a b c : List UInt8}, Op.bytesLess a b = true → Op.bytesLess b c = true → Op.bytesLess a c = true
  | [], [], _, h, _ => by simp [Op.bytesLess] at h
  | [], _ :: _, [], _, h => by simp [Op.bytesLess] at h
  | [], _ :: _, _ :: _, _, _ => by simp [Op.bytesLess]
  | _ :: _, [], _, h, _ => by simp [Op.bytesLess] at h
  | _ :: _, _ :: _, [], _, h => by simp [Op.bytesLess] at h
  | a :: x, b :: y, c :: z, h1, h2 => by
    simp only [Op.bytesLess, Bool.or_eq_true, Bool.and_eq_true, decide_eq_true_eq, beq_iff_eq] at h1 h2 ⊢
    rcases h1 with h1 | ⟨rfl, h1⟩
    · rcases h2 with h2 | ⟨rfl, h2⟩
      · exact .inl (UInt8.lt_trans h1 h2)
      · exact .inl h1
    · rcases h2 with h2 | ⟨rfl, h2⟩
      · exact .inl h2
      · exact .inr ⟨rfl, bytesLess_trans h1 h2⟩
theorem bytesLess_total : ∀ (a b : List UInt8), Op.bytesLess a b = false → a ≠ b → Op.bytesLess b a = true
  | [], [], _, h => absurd rfl h
  | [], _ :: _, h, _ => by simp [Op.bytesLess] at h
  | _ :: _, [], _, _ => by simp [Op.bytesLess]
  | a :: x, b :: y, h, hne => by
    simp only [Op.bytesLess, Bool.or_eq_false_iff, Bool.and_eq_false_iff, decide_eq_false_iff_not, beq_eq_false_iff_ne] at h
    simp only [Op.bytesLess, Bool.or_eq_true, Bool.and_eq_true, decide_eq_true_eq, beq_iff_eq]
    by_cases hab : b < a
    · exact .inl hab
    · have hba : a = b := UInt8.le_antisymm (UInt8.not_lt.1 hab) (UInt8.not_lt.1 h.1)
      subst hba
      refine .inr ⟨rfl, bytesLess_total x y ?_ (fun e => hne (by rw [e]))⟩
      rcases h.2 with h2 | h2
      · exact absurd rfl h2
      · exact h2
theorem bytesLess_irrefl : ∀ (a : List UInt8), Op.bytesLess a a = false
  | [] => rfl
  | a :: x => by simp [Op.bytesLess, UInt8.lt_irrefl, bytesLess_irrefl x]
theorem nmLe_not {a b : ByteArray} : nmLe a b = false ↔ Op.bytesLess b.toList a.toList = true := by
  unfold nmLe
  simp only [Bool.or_eq_false_iff, beq_eq_false_iff_ne]
  constructor
  · rintro ⟨h1, h2⟩; exact bytesLess_total _ _ h1 h2
  · intro h
    refine ⟨?_, fun e => ?_⟩
    · cases h2 : Op.bytesLess a.toList b.toList
      · rfl
      · have := bytesLess_trans h h2
        rw [bytesLess_irrefl] at this; cases this
    · rw [e, bytesLess_irrefl] at h; cases h
theorem catOk_iff {P : List PItem} : catOk P = true ↔ P.length ≤ 20 ∧ (∀ x ∈ P, nameOk x.nm = true ∧ cardOk x.d x.f x.ss = true) ∧ P.Pairwise (fun a b => Op.bytesLess a.nm.toList b.nm.toList = true) := by
  unfold catOk
  simp only [Bool.and_eq_true, List.all_eq_true, List.mem_range, decide_eq_true_eq]
  have key : ∀ i, (hi : i < P.length) → (itGood P i = true ↔ (nameOk P[i].nm = true ∧ cardOk P[i].d P[i].f P[i].ss = true) ∧ (∀ j, (hj : j + 1 = i) → Op.bytesLess (P[j]'(by omega)).nm.toList P[i].nm.toList = true)) := by
    intro i hi
    cases i with
    | zero =>
      rw [itGood_0 (List.getElem?_eq_getElem hi)]
      simp only [Bool.and_eq_true]
      exact ⟨fun h => ⟨h, fun j hj => by omega⟩, fun h => h.1⟩
    | succ k =>
      rw [itGood_s (List.getElem?_eq_getElem hi) (List.getElem?_eq_getElem (by omega))]
      simp only [Bool.and_eq_true, Bool.not_eq_true', nmLe_not]
      exact ⟨fun h => ⟨h.1, fun j hj => by have : j = k := by omega
                                           subst this; exact h.2⟩, fun h => ⟨h.1, h.2 k rfl⟩⟩
  constructor
  · rintro ⟨h1, h2⟩
    refine ⟨h2, fun x hx => ?_, ?_⟩
    · obtain ⟨i, hi, rfl⟩ := List.getElem_of_mem hx
      exact ((key i hi).1 (h1 i hi)).1
    · rw [List.pairwise_iff_getElem]
      have hstep : ∀ i, (hi : i + 1 < P.length) → Op.bytesLess P[i].nm.toList P[i + 1].nm.toList = true := fun i hi => ((key (i + 1) hi).1 (h1 (i + 1) hi)).2 i rfl
      intro i j hi hj hij
      induction j with
      | zero => omega
      | succ j ih =>
        rcases Nat.lt_or_ge i j with h3 | h3
        · exact bytesLess_trans (ih (by omega) h3) (hstep j hj)
        · have : i = j := by omega
          subst this
          exact hstep i hj
  · rintro ⟨h1, h2, h3⟩
    refine ⟨fun i hi => (key i hi).2 ⟨h2 _ (List.getElem_mem hi), fun j hj => ?_⟩, h1⟩
    rw [List.pairwise_iff_getElem] at h3
    exact h3 j i (by omega) hi (by omega)
theorem added_cat {P : List PItem} {x : PItem} (h : (added P x).2 = true) : catOk (added P x).1 = true := by
  obtain ⟨j, hj⟩ : ∃ j, posOf P x.nm = j := ⟨_, rfl⟩
  cases hc : catOk P with
  | false => rw [added_no1 hc] at h; cases h
  | true =>
    cases hi : catOk (insP P x j) with
    | false => rw [added_no2 hj hi] at h; cases h
    | true => rw [added_yes hj hc hi]; exact hi
end Go.Proofs.YtlimlolciekimaaGreatDoor
namespace Go.Proofs.YtlimlolciekimaaGreatDoor
open Go.ChangeShapes Go.WideShapes Go.ChangeAt Go.RowKit
set_option linter.unusedVariables false
set_option linter.unusedSimpArgs false
set_option maxRecDepth 10000
theorem hkc {w e : World} {g : Nat} {o : Obj} (he : w = e) (h : e.heap[g]? = some o) : w.heap[g]? = some o := he ▸ h
theorem bf10 {w : World} {g : Nat} {t : TypeId} {z0 z1 z2 z3 z4 z5 z6 z7 z8 z9 : Value} (h : w.heap[g]? = some (.cells #[z0, z1, z2, z3, z4, z5, z6, z7, z8, z9] t (0, 0))) : w.frozen? ⟨g, 0, none⟩ = false ∧ w.frozen? ⟨g, 1, none⟩ = false ∧ w.frozen? ⟨g, 2, none⟩ = false ∧ w.frozen? ⟨g, 3, none⟩ = false ∧ w.frozen? ⟨g, 4, none⟩ = false ∧ w.frozen? ⟨g, 5, none⟩ = false ∧ w.frozen? ⟨g, 6, none⟩ = false ∧ w.frozen? ⟨g, 7, none⟩ = false ∧ w.frozen? ⟨g, 8, none⟩ = false ∧ w.frozen? ⟨g, 9, none⟩ = false := ⟨(blk_cells h 0).2, (blk_cells h 1).2, (blk_cells h 2).2, (blk_cells h 3).2, (blk_cells h 4).2, (blk_cells h 5).2, (blk_cells h 6).2, (blk_cells h 7).2, (blk_cells h 8).2, (blk_cells h 9).2⟩
theorem ba10 {w : World} {g : Nat} {t : TypeId} {z0 z1 z2 z3 z4 z5 z6 z7 z8 z9 : Value} (h : w.heap[g]? = some (.cells #[z0, z1, z2, z3, z4, z5, z6, z7, z8, z9] t (0, 0))) : (w.cell? ⟨g, 0, none⟩ = some z0 ∧ w.cell? ⟨g, 1, none⟩ = some z1 ∧ w.cell? ⟨g, 2, none⟩ = some z2 ∧ w.cell? ⟨g, 3, none⟩ = some z3 ∧ w.cell? ⟨g, 4, none⟩ = some z4 ∧ w.cell? ⟨g, 5, none⟩ = some z5 ∧ w.cell? ⟨g, 6, none⟩ = some z6 ∧ w.cell? ⟨g, 7, none⟩ = some z7 ∧ w.cell? ⟨g, 8, none⟩ = some z8 ∧ w.cell? ⟨g, 9, none⟩ = some z9 ∧ g < w.heap.size) ∧ w.frozen? ⟨g, 0, none⟩ = false ∧ w.frozen? ⟨g, 1, none⟩ = false ∧ w.frozen? ⟨g, 2, none⟩ = false ∧ w.frozen? ⟨g, 3, none⟩ = false ∧ w.frozen? ⟨g, 4, none⟩ = false ∧ w.frozen? ⟨g, 5, none⟩ = false ∧ w.frozen? ⟨g, 6, none⟩ = false ∧ w.frozen? ⟨g, 7, none⟩ = false ∧ w.frozen? ⟨g, 8, none⟩ = false ∧ w.frozen? ⟨g, 9, none⟩ = false := ⟨blk10 h, bf10 h⟩
theorem endw {w wk : World} {g : Nat} {t : TypeId} {A1 : Option Addr} {c1 : Nat} {A2 : Option Addr} {c2 : Nat} {A3 : Option Addr} {c3 : Nat} {A4 : Option Addr} {c4 : Nat} {A5 : Option Addr} {c5 : Nat} {D : PDraft} {P : List PItem} {pp : List PPaper} {z0 z1 z2 z3 z4 z5 z6 z7 z8 z9 : Value} (hk : wk.heap[g]? = some (.cells #[z0, z1, z2, z3, z4, z5, z6, z7, z8, z9] t (0, 0))) (ho : OwnW wk w.heap.size wk.heap.size A1 c1 A2 c2 A3 c3 A4 c4 A5 c5 D P pp) (hb : Below w.heap.size w wk) (hg : w.heap.size ≤ g) {v0 v1 v2 v3 v4 v5 v6 v7 v8 v9 : Value} (ht : t ∉ rowTys := by decide) :
    OwnW ((((((((((wk.setCell ⟨g, 0, none⟩ v0).setCell ⟨g, 1, none⟩ v1).setCell ⟨g, 2, none⟩ v2).setCell ⟨g, 3, none⟩ v3).setCell ⟨g, 4, none⟩ v4).setCell ⟨g, 5, none⟩ v5).setCell ⟨g, 6, none⟩ v6).setCell ⟨g, 7, none⟩ v7).setCell ⟨g, 8, none⟩ v8).setCell ⟨g, 9, none⟩ v9) w.heap.size ((((((((((wk.setCell ⟨g, 0, none⟩ v0).setCell ⟨g, 1, none⟩ v1).setCell ⟨g, 2, none⟩ v2).setCell ⟨g, 3, none⟩ v3).setCell ⟨g, 4, none⟩ v4).setCell ⟨g, 5, none⟩ v5).setCell ⟨g, 6, none⟩ v6).setCell ⟨g, 7, none⟩ v7).setCell ⟨g, 8, none⟩ v8).setCell ⟨g, 9, none⟩ v9).heap.size A1 c1 A2 c2 A3 c3 A4 c4 A5 c5 D P pp ∧ Below w.heap.size w ((((((((((wk.setCell ⟨g, 0, none⟩ v0).setCell ⟨g, 1, none⟩ v1).setCell ⟨g, 2, none⟩ v2).setCell ⟨g, 3, none⟩ v3).setCell ⟨g, 4, none⟩ v4).setCell ⟨g, 5, none⟩ v5).setCell ⟨g, 6, none⟩ v6).setCell ⟨g, 7, none⟩ v7).setCell ⟨g, 8, none⟩ v8).setCell ⟨g, 9, none⟩ v9) := by
  have hbx := boxAt_of hk ht
  have hX : Boxy wk ((((((((((wk.setCell ⟨g, 0, none⟩ v0).setCell ⟨g, 1, none⟩ v1).setCell ⟨g, 2, none⟩ v2).setCell ⟨g, 3, none⟩ v3).setCell ⟨g, 4, none⟩ v4).setCell ⟨g, 5, none⟩ v5).setCell ⟨g, 6, none⟩ v6).setCell ⟨g, 7, none⟩ v7).setCell ⟨g, 8, none⟩ v8).setCell ⟨g, 9, none⟩ v9) := boxy
  refine ⟨(ho.boxy hX).wide (Nat.le_refl _) (Nat.le_of_eq (by simp [World.setCell])), ?_⟩
  exact bel
theorem OwnS.grownP {w w' : World} {lo hi b n : Nat} {A : Option Addr} {c : Nat} {ss : List ByteArray} {v : Value} {xs : List Value} (ho : OwnS w lo hi A c ss) (hp : w.ownsRow b 105 3 v n xs) (hg : w.grownBy w' v.ownBlock) : OwnS w' lo hi A c ss :=
  ⟨own_grown ho.row hg (fun k hk he => own_ne_type ho.row hp (by decide) k hk he), ho.top⟩
theorem OwnSt.grownP {w w' : World} {lo hi b n : Nat} {A : Option Addr} {c : Nat} {st : List PStep} {v : Value} {xs : List Value} (ho : OwnSt w lo hi A c st) (hp : w.ownsRow b 105 3 v n xs) (hg : w.grownBy w' v.ownBlock) : OwnSt w' lo hi A c st :=
  ⟨own_grown ho.row hg (fun k hk he => own_ne_type ho.row hp (by decide) k hk he), ho.top⟩
theorem OwnD.grownP {w w' : World} {lo hi b n : Nat} {A1 A2 A3 : Option Addr} {c1 c2 c3 : Nat} {D : PDraft} {v : Value} {xs : List Value} (ho : OwnD w lo hi A1 c1 A2 c2 A3 c3 D) (hp : w.ownsRow b 105 3 v n xs) (hg : w.grownBy w' v.ownBlock) : OwnD w' lo hi A1 c1 A2 c2 A3 c3 D := ⟨ho.o1.grownP hp hg, ho.o2.grownP hp hg, ho.o3.grownP hp hg, ho.ne⟩
theorem OwnDW.grownP {w w' : World} {lo hi b n : Nat} {A1 A2 A3 : Option Addr} {c1 c2 c3 : Nat} {D : PDraft} {v : Value} {xs : List Value} (ho : OwnDW w lo hi A1 c1 A2 c2 A3 c3 D) (hp : w.ownsRow b 105 3 v n xs) (hg : w.grownBy w' v.ownBlock) : OwnDW w' lo hi A1 c1 A2 c2 A3 c3 D := ⟨ho.o1.grownP hp hg, ho.o2.grownP hp hg, ho.o3.elim fun c0 h3 => ⟨c0, h3.grownP hp hg⟩, ho.ne⟩
theorem OwnItems.grownP {w w' : World} {lo hi b n N c : Nat} {A : Option Addr} {L : List RItem} {v : Value} {xs : List Value} (ho : OwnItems w lo hi A N c L) (hp : w.ownsRow b 105 3 v n xs) (hg : w.grownBy w' v.ownBlock) : OwnItems w' lo hi A N c L :=
  ⟨own_grown ho.row hg (fun k hk he => own_ne_type ho.row hp (by decide) k hk he), ho.top, fun r hr => (ho.in_ r hr).grownP hp hg, ho.apart⟩
theorem OwnP.pin {w : World} {lo k c : Nat} {A : Option Addr} {l : List PPaper} (ho : w.ownsRow lo 105 3 (.slice A l.length c) l.length (l.flatMap paperCells)) (h : (Value.slice A l.length c).ownBlock = some k) : OwnP w k (k + 1) A c l :=
  ⟨own_lo ho (fun j hj => by rw [h] at hj; injection hj with hj; omega), fun j hj => by rw [h] at hj; injection hj with hj; omega⟩
set_option maxHeartbeats 6400000 in
theorem s_l38Copy (d1 f1 : Int) (ss1 : List ByteArray) (d2 f2 : Int) (ss2 : List ByteArray) (st : List PStep) (P : List PItem) (pp : List PPaper) (m : Int) (B : Nat) (A1 A2 A3 A4 A5 : Option Addr) (c1 c2 c3 c4 c5 : Nat) (w : World) (hS : RdWork w B A1 A2 A3 A4 c4 A5 ⟨d1, f1, ss1, d2, f2, ss2, st⟩ P pp) (hB : B ≤ w.heap.size) :
    Calls Tryz.prog 125 #[.agg #[.int .i64 d1, .int .i64 f1, .slice A1 ss1.length c1, .int .i64 d2, .int .i64 f2, .slice A2 ss2.length c2, .slice A3 st.length c3, .slice A4 P.length c4, .slice A5 pp.length c5, .int .i64 m]] w (UWork d1 f1 ss1 d2 f2 ss2 st P pp m w) := by
  obtain ⟨L, hpl, hL⟩ := hS.i
  have HPL := Lib.hid hpl
  have hpn := hS.p.nb
  clear hpl
  have hone := paperCells_one pp
  have HONE := hide hone
  clear hone
  obtain ⟨i0, hi0, hz0, hz1, hz2⟩ := info_parts info_paperCells
  go_enter Tryz.func125, Tryz.ntmps125
  go_wp2
  have hbW : Below w.heap.size w ((w.alloc (.cells #[.int .i64 d1, .int .i64 f1, .slice A1 ss1.length c1, .int .i64 d2, .int .i64 f2, .slice A2 ss2.length c2, .slice A3 st.length c3, .slice A4 P.length c4, .slice A5 pp.length c5, .int .i64 m] 33)).alloc (.cells #[.int .i64 0, .int .i64 0, .slice none 0 0, .int .i64 0, .int .i64 0, .slice none 0 0, .slice none 0 0, .slice none 0 0, .slice none 0 0, .int .i64 0] 33)) := bel
  have hk1 := box_first w (.cells #[.int .i64 d1, .int .i64 f1, .slice A1 ss1.length c1, .int .i64 d2, .int .i64 f2, .slice A2 ss2.length c2, .slice A3 st.length c3, .slice A4 P.length c4, .slice A5 pp.length c5, .int .i64 m] 33) (.cells #[.int .i64 0, .int .i64 0, .slice none 0 0, .int .i64 0, .int .i64 0, .slice none 0 0, .slice none 0 0, .slice none 0 0, .slice none 0 0, .int .i64 0] 33)
  have hk2 := box_second w (.cells #[.int .i64 d1, .int .i64 f1, .slice A1 ss1.length c1, .int .i64 d2, .int .i64 f2, .slice A2 ss2.length c2, .slice A3 st.length c3, .slice A4 P.length c4, .slice A5 pp.length c5, .int .i64 m] 33) (.cells #[.int .i64 0, .int .i64 0, .slice none 0 0, .int .i64 0, .int .i64 0, .slice none 0 0, .slice none 0 0, .slice none 0 0, .slice none 0 0, .int .i64 0] 33)
  generalize ((w.alloc (.cells #[.int .i64 d1, .int .i64 f1, .slice A1 ss1.length c1, .int .i64 d2, .int .i64 f2, .slice A2 ss2.length c2, .slice A3 st.length c3, .slice A4 P.length c4, .slice A5 pp.length c5, .int .i64 m] 33)).alloc (.cells #[.int .i64 0, .int .i64 0, .slice none 0 0, .int .i64 0, .int .i64 0, .slice none 0 0, .slice none 0 0, .slice none 0 0, .slice none 0 0, .int .i64 0] 33)) = w0 at *
  have hzw := hbW.size
  have hz0_ := blk_lt hk1
  have hz1_ := blk_lt hk2
  obtain ⟨hx0, hx1, hx2, hx3, hx4, hx5, hx6, hx7, hx8, hx9, hxl⟩ := blk10 hk1
  have gD := hS.d.below (hbW.mono hB)
  have gI := hL.below (hbW.mono hB)
  have gP := hS.p.below (hbW.mono hB)
  have hB0 : B ≤ w0.heap.size := by omega
  have hB1 : B ≤ w.heap.size + 1 := by omega
  have hz1q : w.heap.size + 1 ≤ w0.heap.size := by omega
  go_region_held3 (fun W => (∀ b o, b < w.heap.size + 1 → W.cell? ⟨b, o, none⟩ = (w0).cell? ⟨b, o, none⟩) ∧ (∀ b o, b < w.heap.size + 1 → W.frozen? ⟨b, o, none⟩ = (w0).frozen? ⟨b, o, none⟩) ∧ Below (w.heap.size + 1) (w0) W) (exact keep_of bel) (first | (go_at_call 172; have hq := (‹_ ∧ _ ∧ Below _ _ _›).2.2; refine (u_l37Copy d1 f1 ss1 d2 f2 ss2 st B A1 A2 A3 c1 c2 c3 _ (gD.below (hq.mono hB1)) (Nat.le_trans hB0 hq.size)).mono ?_; rintro e w1 ⟨B1, e1, B2, e2, B3, e3, rfl, ho1, hb1⟩; have hqs1 := hq.size; have hbs1 := hb1.size; (try simp at hqs1); (try simp at hbs1); (have hkk1 : w1.heap[w.heap.size + 1]? = some (.cells #[.int .i64 0, .int .i64 0, .slice none 0 0, .int .i64 0, .int .i64 0, .slice none 0 0, .slice none 0 0, .slice none 0 0, .slice none 0 0, .int .i64 0] 33 (0, 0)) := (by first | exact blk_next hk2 hb1 | exact blk_next (blk_drew hk2) hb1 | exact blk_next (blk_alloc hk2 _) hb1 | exact blk_next (blk_drew (blk_alloc hk2 _)) hb1))) | (go_at_call 173; have hq := (‹_ ∧ _ ∧ Below _ _ _›).2.2; refine (u_l35Copy P B A4 P.length c4 L _ HPL.out (gI.below (hq.mono hB1)) (Nat.le_trans hB0 hq.size)).mono ?_; rintro e w2 ⟨B4, e4, L4, rfl, hp4, ho4, hb2⟩; (have HP4 := Lib.hid hp4); clear hp4; have hqs2 := hq.size; have hbs2 := hb2.size; (try simp at hqs2); (try simp at hbs2); (have hkk2 : w2.heap[w.heap.size + 1]? = some (.cells #[.int .i64 0, .int .i64 0, .slice none 0 0, .int .i64 0, .int .i64 0, .slice none 0 0, .slice none 0 0, .slice none 0 0, .slice none 0 0, .int .i64 0] 33 (0, 0)) := (by first | exact blk_next hkk1 hb2 | exact blk_next (blk_drew hkk1) hb2 | exact blk_next (blk_alloc hkk1 _) hb2 | exact blk_next (blk_drew (blk_alloc hkk1 _)) hb2))) | ((have ho1X : OwnD w1 (w0.heap.size + 1) w1.heap.size B1 e1 B2 e2 B3 e3 ⟨d1, f1, ss1, d2, f2, ss2, st⟩ := ho1.wide (by first | exact Nat.le_refl _ | simp) (Nat.le_refl _)); (have ho4X : OwnItems w2 (w1.heap.size) w2.heap.size B4 P.length e4 L4 := ho4.wide (by first | exact Nat.le_refl _ | simp) (Nat.le_refl _)); (have hb2X : Below w1.heap.size w1 w2 := (by first | exact hb2 | exact ⟨hb2.os, hb2.tape, hb2.output, hb2.size, hb2.block⟩)); (have hb1X : Below (w0.alloc (.cells #[] 105)).heap.size (w0.alloc (.cells #[] 105)) w1 := (by first | exact hb1 | exact ⟨hb1.os, hb1.tape, hb1.output, hb1.size, hb1.block⟩)); (have hoE : World.ownsRow w2 w0.heap.size 105 3 (.slice (some ⟨w0.heap.size, 0, none⟩) 0 0) 0 [] := own_below (own_below (made_at w0 _ _ rfl (by omega)) hb1X) hb2X); (have ho1Y := ho1X.below hb2X); refine step_append_any _ rfl (.tmp 9) (.tmp 11) _ rfl w0.heap.size 105 i0 _ 3 24 Tryz.underlying31 hi0 hz0 hz1 hz2 rfl (by omega) (.slice (some ⟨w0.heap.size, 0, none⟩) 0 0) 0 [] rfl ?_ B A5 pp.length c5 (pp.flatMap paperCells) rfl ?_ (unhide HONE) ?_ ?_ ?_ ?_; (first | exact hoE | exact ⟨hoE.1, hoE.2⟩); (have hq := (‹_ ∧ _ ∧ Below _ _ _›).2.2; exact gP.rd.below (hq.mono hB1)); (unfold maxLen; omega); omega; (have hq := (‹_ ∧ _ ∧ Below _ _ _›).2.2; exact hq.size); intro v3 w3 ho3 hg3 hat3; (have hg3X : World.grownBy w2 w3 (Value.ownBlock (.slice (some ⟨w0.heap.size, 0, none⟩) 0 0)) := (by first | exact hg3 | exact ⟨hg3.os, hg3.tape, hg3.output, hg3.size, hg3.block⟩)); (have hz3 := hg3X.size; (try simp at hz3)); (have hq3 := (‹_ ∧ _ ∧ Below _ _ _›).2.2); (have hbw3 := grown_below hg3 (B := w.heap.size + 1) (fun k hk => Nat.le_trans hz1q (hoE.lt k hk).1) (Nat.le_trans hz1q hq3.size)); (have hbq3 := hq3.trans hbw3); (have hkk3 := blk_markedk (hkk2) hg3X hoE (by decide)); (have ho1Z := ho1Y.grownP hoE hg3X); (have ho4Z := (ho4X).grownP hoE hg3X); clear hg3 hbw3; obtain ⟨hv0, hv1, hv2, hv3, hv4, hv5, hv6, hv7, hv8, hv9, hvl⟩ := blk10 hkk3; obtain ⟨⟨hf0, hf1, hf2, hf3, hf4⟩, hf5, hf6, hf7, hf8, hf9⟩ := blk10f hkk3; rw [Nat.zero_add, List.nil_append] at ho3; obtain ⟨B5, e5, rfl⟩ := own_slice ho3; (have hsz1 := hb1X.size); (have hsz2 := hb2X.size); (simp at hsz1); (have hFin : ∃ l1 l2 k, OwnD w3 l1 w1.heap.size B1 e1 B2 e2 B3 e3 ⟨d1, f1, ss1, d2, f2, ss2, st⟩ ∧ OwnItems w3 l2 w2.heap.size B4 P.length e4 L4 ∧ OwnP w3 k (k + 1) B5 e5 pp ∧ (w0.heap.size ≤ l1 ∧ w1.heap.size ≤ w3.heap.size ∧ w1.heap.size ≤ l2 ∧ w2.heap.size ≤ w3.heap.size ∧ w0.heap.size ≤ k ∧ k + 1 ≤ w3.heap.size ∧ w0.heap.size ≤ w1.heap.size) ∧ (w1.heap.size ≤ k ∨ k + 1 ≤ l1) ∧ (w2.heap.size ≤ k ∨ k + 1 ≤ l2) := (by rcases hat3 with hq9 | hq9; (have hlt9 := (ho3.lt _ (show (Value.slice B5 pp.length e5).ownBlock = some w0.heap.size from hq9)).2; exact ⟨w0.heap.size + 1, w1.heap.size, w0.heap.size, ho1Z, ho4Z, OwnP.pin ho3 hq9, by omega, by omega, by omega⟩); (have hq8 : (Value.slice B5 pp.length e5).ownBlock = some w2.heap.size := hq9; have hlt9 := (ho3.lt _ hq8).2; exact ⟨w0.heap.size + 1, w1.heap.size, w2.heap.size, ho1Z, ho4Z, OwnP.pin ho3 hq8, by omega, by omega, by omega⟩))); (have HFIN := hide hFin); clear hFin hat3) | ((have ho1X : OwnD w1 (w0.heap.size) w1.heap.size B1 e1 B2 e2 B3 e3 ⟨d1, f1, ss1, d2, f2, ss2, st⟩ := ho1.wide (by first | exact Nat.le_refl _ | simp) (Nat.le_refl _)); (have ho4X : OwnItems w2 (w1.heap.size + 1) w2.heap.size B4 P.length e4 L4 := ho4.wide (by first | exact Nat.le_refl _ | simp) (Nat.le_refl _)); (have hb2X : Below (w1.alloc (.cells #[] 105)).heap.size (w1.alloc (.cells #[] 105)) w2 := (by first | exact hb2 | exact ⟨hb2.os, hb2.tape, hb2.output, hb2.size, hb2.block⟩)); (have hb1X : Below w0.heap.size w0 w1 := (by first | exact hb1 | exact ⟨hb1.os, hb1.tape, hb1.output, hb1.size, hb1.block⟩)); (have hoE : World.ownsRow w2 w0.heap.size 105 3 (.slice (some ⟨w1.heap.size, 0, none⟩) 0 0) 0 [] := own_below (made_at w1 _ _ rfl hb1X.size) hb2X); (have ho1Y := (ho1X.alloc (.cells #[] 105)).below hb2X); refine step_append_any _ rfl (.tmp 9) (.tmp 11) _ rfl w0.heap.size 105 i0 _ 3 24 Tryz.underlying31 hi0 hz0 hz1 hz2 rfl (by omega) (.slice (some ⟨w1.heap.size, 0, none⟩) 0 0) 0 [] rfl ?_ B A5 pp.length c5 (pp.flatMap paperCells) rfl ?_ (unhide HONE) ?_ ?_ ?_ ?_; (first | exact hoE | exact ⟨hoE.1, hoE.2⟩); (have hq := (‹_ ∧ _ ∧ Below _ _ _›).2.2; exact gP.rd.below (hq.mono hB1)); (unfold maxLen; omega); omega; (have hq := (‹_ ∧ _ ∧ Below _ _ _›).2.2; exact hq.size); intro v3 w3 ho3 hg3 hat3; (have hg3X : World.grownBy w2 w3 (Value.ownBlock (.slice (some ⟨w1.heap.size, 0, none⟩) 0 0)) := (by first | exact hg3 | exact ⟨hg3.os, hg3.tape, hg3.output, hg3.size, hg3.block⟩)); (have hz3 := hg3X.size; (try simp at hz3)); (have hq3 := (‹_ ∧ _ ∧ Below _ _ _›).2.2); (have hbw3 := grown_below hg3 (B := w.heap.size + 1) (fun k hk => Nat.le_trans hz1q (hoE.lt k hk).1) (Nat.le_trans hz1q hq3.size)); (have hbq3 := hq3.trans hbw3); (have hkk3 := blk_markedk (hkk2) hg3X hoE (by decide)); (have ho1Z := ho1Y.grownP hoE hg3X); (have ho4Z := (ho4X).grownP hoE hg3X); clear hg3 hbw3; obtain ⟨hv0, hv1, hv2, hv3, hv4, hv5, hv6, hv7, hv8, hv9, hvl⟩ := blk10 hkk3; obtain ⟨⟨hf0, hf1, hf2, hf3, hf4⟩, hf5, hf6, hf7, hf8, hf9⟩ := blk10f hkk3; rw [Nat.zero_add, List.nil_append] at ho3; obtain ⟨B5, e5, rfl⟩ := own_slice ho3; (have hsz1 := hb1X.size); (have hsz2 := hb2X.size); (simp at hsz2); (have hFin : ∃ l1 l2 k, OwnD w3 l1 w1.heap.size B1 e1 B2 e2 B3 e3 ⟨d1, f1, ss1, d2, f2, ss2, st⟩ ∧ OwnItems w3 l2 w2.heap.size B4 P.length e4 L4 ∧ OwnP w3 k (k + 1) B5 e5 pp ∧ (w0.heap.size ≤ l1 ∧ w1.heap.size ≤ w3.heap.size ∧ w1.heap.size ≤ l2 ∧ w2.heap.size ≤ w3.heap.size ∧ w0.heap.size ≤ k ∧ k + 1 ≤ w3.heap.size ∧ w0.heap.size ≤ w1.heap.size) ∧ (w1.heap.size ≤ k ∨ k + 1 ≤ l1) ∧ (w2.heap.size ≤ k ∨ k + 1 ≤ l2) := (by rcases hat3 with hq9 | hq9; (have hlt9 := (ho3.lt _ (show (Value.slice B5 pp.length e5).ownBlock = some w1.heap.size from hq9)).2; exact ⟨w0.heap.size, w1.heap.size + 1, w1.heap.size, ho1Z, ho4Z, OwnP.pin ho3 hq9, by omega, by omega, by omega⟩); (have hq8 : (Value.slice B5 pp.length e5).ownBlock = some w2.heap.size := hq9; have hlt9 := (ho3.lt _ hq8).2; exact ⟨w0.heap.size, w1.heap.size + 1, w2.heap.size, ho1Z, ho4Z, OwnP.pin ho3 hq8, by omega, by omega, by omega⟩))); (have HFIN := hide hFin); clear hFin hat3) | ((have ho1X : OwnD w1 (w0.heap.size) w1.heap.size B1 e1 B2 e2 B3 e3 ⟨d1, f1, ss1, d2, f2, ss2, st⟩ := ho1.wide (by first | exact Nat.le_refl _ | simp) (Nat.le_refl _)); (have ho4X : OwnItems w2 (w1.heap.size) w2.heap.size B4 P.length e4 L4 := ho4.wide (by first | exact Nat.le_refl _ | simp) (Nat.le_refl _)); (have hb2X : Below w1.heap.size w1 w2 := (by first | exact hb2 | exact ⟨hb2.os, hb2.tape, hb2.output, hb2.size, hb2.block⟩)); (have hb1X : Below w0.heap.size w0 w1 := (by first | exact hb1 | exact ⟨hb1.os, hb1.tape, hb1.output, hb1.size, hb1.block⟩)); (have hoE : World.ownsRow (w2.alloc (.cells #[] 105)) w0.heap.size 105 3 (.slice (some ⟨w2.heap.size, 0, none⟩) 0 0) 0 [] := made_at w2 _ _ rfl (Nat.le_trans hb1X.size hb2X.size)); (have ho1Y := (ho1X.below hb2X).alloc (.cells #[] 105)); refine step_append_any _ rfl (.tmp 9) (.tmp 11) _ rfl w0.heap.size 105 i0 _ 3 24 Tryz.underlying31 hi0 hz0 hz1 hz2 rfl (by omega) (.slice (some ⟨w2.heap.size, 0, none⟩) 0 0) 0 [] rfl ?_ B A5 pp.length c5 (pp.flatMap paperCells) rfl ?_ (unhide HONE) ?_ ?_ ?_ ?_; (first | exact hoE | exact ⟨hoE.1, hoE.2⟩); (have hq := (‹_ ∧ _ ∧ Below _ _ _›).2.2; exact gP.rd.below (hq.mono hB1)); (unfold maxLen; omega); omega; (have hq := (‹_ ∧ _ ∧ Below _ _ _›).2.2; exact hq.size); intro v3 w3 ho3 hg3 hat3; (have hg3X : World.grownBy (w2.alloc (.cells #[] 105)) w3 (Value.ownBlock (.slice (some ⟨w2.heap.size, 0, none⟩) 0 0)) := (by first | exact hg3 | exact ⟨hg3.os, hg3.tape, hg3.output, hg3.size, hg3.block⟩)); (have hz3 := hg3X.size; (try simp at hz3)); (have hq3 := (‹_ ∧ _ ∧ Below _ _ _›).2.2); (have hbw3 := grown_below hg3 (B := w.heap.size + 1) (fun k hk => Nat.le_trans hz1q (hoE.lt k hk).1) (Nat.le_trans hz1q hq3.size)); (have hbq3 := hq3.trans hbw3); (have hkk3 := blk_markedk (blk_alloc hkk2 _) hg3X hoE (by decide)); (have ho1Z := ho1Y.grownP hoE hg3X); (have ho4Z := (ho4X.alloc (.cells #[] 105)).grownP hoE hg3X); clear hg3 hbw3; obtain ⟨hv0, hv1, hv2, hv3, hv4, hv5, hv6, hv7, hv8, hv9, hvl⟩ := blk10 hkk3; obtain ⟨⟨hf0, hf1, hf2, hf3, hf4⟩, hf5, hf6, hf7, hf8, hf9⟩ := blk10f hkk3; rw [Nat.zero_add, List.nil_append] at ho3; obtain ⟨B5, e5, rfl⟩ := own_slice ho3; (have hsz1 := hb1X.size); (have hsz2 := hb2X.size); (have hFin : ∃ l1 l2 k, OwnD w3 l1 w1.heap.size B1 e1 B2 e2 B3 e3 ⟨d1, f1, ss1, d2, f2, ss2, st⟩ ∧ OwnItems w3 l2 w2.heap.size B4 P.length e4 L4 ∧ OwnP w3 k (k + 1) B5 e5 pp ∧ (w0.heap.size ≤ l1 ∧ w1.heap.size ≤ w3.heap.size ∧ w1.heap.size ≤ l2 ∧ w2.heap.size ≤ w3.heap.size ∧ w0.heap.size ≤ k ∧ k + 1 ≤ w3.heap.size ∧ w0.heap.size ≤ w1.heap.size) ∧ (w1.heap.size ≤ k ∨ k + 1 ≤ l1) ∧ (w2.heap.size ≤ k ∨ k + 1 ≤ l2) := (by rcases hat3 with hq9 | hq9; (have hlt9 := (ho3.lt _ (show (Value.slice B5 pp.length e5).ownBlock = some w2.heap.size from hq9)).2; exact ⟨w0.heap.size, w1.heap.size, w2.heap.size, ho1Z, ho4Z, OwnP.pin ho3 hq9, by omega, by omega, by omega⟩); (have hq8 : (Value.slice B5 pp.length e5).ownBlock = some (w2.heap.size + 1) := (hq9.trans (by simp)); have hlt9 := (ho3.lt _ hq8).2; exact ⟨w0.heap.size, w1.heap.size, (w2.heap.size + 1), ho1Z, ho4Z, OwnP.pin ho3 hq8, by omega, by omega, by omega⟩))); (have HFIN := hide hFin); clear hFin hat3))
  all_goals (
    go_wp2
    have hbx3 : Below w.heap.size w w3 := hbW.trans (hbq3.mono (by omega))
    refine bodyPost_ret (v := .agg #[.int .i64 d1, .int .i64 f1, .slice B1 ss1.length e1, .int .i64 d2, .int .i64 f2, .slice B2 ss2.length e2, .slice B3 st.length e3, .slice B4 P.length e4, .slice B5 pp.length e5, .int .i64 m]) (by simp [results, Tryz.results125, go_sem, *]) rfl ?_
    have hbx := boxAt_of hkk3
    have HBX := hide hbx3
    clear hbx3
    obtain ⟨l1, l2, k, q1, q4, q5, hr1, hr2, hr3⟩ := unhide HFIN
    refine ⟨B1, e1, B2, e2, B3, e3, B4, e4, B5, e5, rfl, OwnW.mk3 ((OwnDW.of q1).boxy (by repeat (first | (with_reducible exact Boxy.refl _) | (with_reducible refine Boxy.drew ?_) | (with_reducible refine Boxy.drewN ?_ _) | (with_reducible refine Boxy.alloc ?_ _) | ((with_reducible refine Boxy.setCell ?_ ?hbs _); (case hbs => first | (with_reducible exact .inl (by assumption)) | exact .inl (by assumption) | exact .inr (by simp) | exact .inr (by simp; omega)))))) HP4.out (q4.boxy (by repeat (first | (with_reducible exact Boxy.refl _) | (with_reducible refine Boxy.drew ?_) | (with_reducible refine Boxy.drewN ?_ _) | (with_reducible refine Boxy.alloc ?_ _) | ((with_reducible refine Boxy.setCell ?_ ?hbs _); (case hbs => first | (with_reducible exact .inl (by assumption)) | exact .inl (by assumption) | exact .inr (by simp) | exact .inr (by simp; omega)))))) (q5.boxy (by repeat (first | (with_reducible exact Boxy.refl _) | (with_reducible refine Boxy.drew ?_) | (with_reducible refine Boxy.drewN ?_ _) | (with_reducible refine Boxy.alloc ?_ _) | ((with_reducible refine Boxy.setCell ?_ ?hbs _); (case hbs => first | (with_reducible exact .inl (by assumption)) | exact .inl (by assumption) | exact .inr (by simp) | exact .inr (by simp; omega)))))) (by simp [World.setCell]; omega) (by omega), ?_⟩
    have hbx3 := unhide HBX
    clear hb1 hb2 hb1X hb2X hq3 hbq3
    exact bel)
end Go.Proofs.YtlimlolciekimaaGreatDoor
namespace Go.Proofs.YtlimlolciekimaaGreatDoor
open Go.ChangeShapes Go.WideShapes Go.ChangeAt Go.RowKit
set_option linter.unusedVariables false
set_option linter.unusedSimpArgs false
set_option maxRecDepth 10000
theorem uwb_cast {W : PWork} {b : Bool} {q : PWork × Bool} {w w' : World} {e : Ending} (h : q = (W, b)) (hu : UWorkB W.D.d1 W.D.f1 W.D.ss1 W.D.d2 W.D.f2 W.D.ss2 W.D.st W.P W.pp W.m b w e w') : UWorkB q.1.D.d1 q.1.D.f1 q.1.D.ss1 q.1.D.d2 q.1.D.f2 q.1.D.ss2 q.1.D.st q.1.P q.1.pp q.1.m q.2 w e w' := by subst h; exact hu
def shapeRes (W : PWork) (s : PStep) : PWork × Bool := if workOk W = true ∧ 1 ≤ W.m ∧ (doRes W.D s).2 = true then (⟨(doRes W.D s).1, W.P, W.pp, W.m - 1⟩, true) else (W, false)
def unshapeRes (W : PWork) : PWork × Bool := if workOk W = true ∧ (undoRes W.D).2 = true then (⟨(undoRes W.D).1, W.P, W.pp, W.m⟩, true) else (W, false)
def forgetRes (W : PWork) (nm : ByteArray) : PWork × Bool := if workOk W = true ∧ (dropped W.P nm).2 = true then (⟨W.D, (dropped W.P nm).1, W.pp, W.m⟩, true) else (W, false)
def keepRes (W : PWork) (nm : ByteArray) : PWork × Bool := if workOk W = true ∧ (added W.P ⟨nm, W.D.d2, W.D.f2, W.D.ss2⟩).2 = true then (⟨W.D, (added W.P ⟨nm, W.D.d2, W.D.f2, W.D.ss2⟩).1, W.pp, W.m⟩, true) else (W, false)
theorem workOk_P {W : PWork} {P : List PItem} (h : workOk W = true) (hd : catOk P = true) : workOk ⟨W.D, P, W.pp, W.m⟩ = true := by rw [workOk_iff] at *; exact ⟨h.1, hd, h.2.2⟩
theorem workOk_m {W : PWork} (h : workOk W = true) : 0 ≤ W.m ∧ W.m ≤ 1000000 := (workOk_iff.1 h).2.2.2.2
theorem keep_s1 {W : PWork} {nm : ByteArray} (h : workOk W = false) : keepRes W nm = (W, false) := by unfold keepRes; rw [h]; simp
theorem keep_s3 {W : PWork} {nm : ByteArray} (h : (added W.P ⟨nm, W.D.d2, W.D.f2, W.D.ss2⟩).2 = false) : keepRes W nm = (W, false) := by unfold keepRes; rw [h]; simp
theorem keep_s4 {W : PWork} {nm : ByteArray} (h1 : workOk W = true) (h3 : (added W.P ⟨nm, W.D.d2, W.D.f2, W.D.ss2⟩).2 = true) : keepRes W nm = (⟨W.D, (added W.P ⟨nm, W.D.d2, W.D.f2, W.D.ss2⟩).1, W.pp, W.m⟩, true) := by unfold keepRes; rw [if_pos ⟨h1, h3⟩]
theorem keepRes_ok (W : PWork) (nm : ByteArray) (h : OkWork W.D W.P W.pp 1048576) (hn : nm.size ≤ 16777216) : OkWork (keepRes W nm).1.D (keepRes W nm).1.P (keepRes W nm).1.pp 1048576 := by
  unfold keepRes
  split
  · exact ⟨h.d, added_ok _ _ _ h.i ⟨h.d.l2, h.d.z2, hn⟩ (by omega), h.p⟩
  · exact h
end Go.Proofs.YtlimlolciekimaaGreatDoor
namespace Go.Proofs.YtlimlolciekimaaGreatDoor
open Go.ChangeShapes Go.WideShapes Go.ChangeAt Go.RowKit
set_option linter.unusedVariables false
set_option linter.unusedSimpArgs false
set_option maxRecDepth 10000
def makeRes (W : PWork) (nm : ByteArray) (k n : Int) : PWork × Bool :=
  if inB n 1 1000 = true ∧ workOk W = true ∧ (named W.P nm).2.2 = true ∧ (useRes W.pp k n).2 = true ∧ W.m + 5 * n ≤ 1000000 then (⟨W.D, W.P, (useRes W.pp k n).1, W.m + 5 * n⟩, true) else (W, false)
def buyRes (W : PWork) (k n : Int) : PWork × Bool :=
  if inB n 1 1000 = true ∧ workOk W = true ∧ workOk ⟨W.D, W.P, W.pp ++ [⟨k, 100, n⟩], W.m - 2 * n⟩ = true then (⟨W.D, W.P, W.pp ++ [⟨k, 100, n⟩], W.m - 2 * n⟩, true) else (W, false)
theorem buy_n1 {W : PWork} {k n : Int} (h : inB n 1 1000 = false) : buyRes W k n = (W, false) := by unfold buyRes; rw [h]; simp
theorem buy_n2 {W : PWork} {k n : Int} (h : workOk W = false) : buyRes W k n = (W, false) := by unfold buyRes; rw [h]; simp
theorem buy_n3 {W : PWork} {k n : Int} (h : workOk ⟨W.D, W.P, W.pp ++ [⟨k, 100, n⟩], W.m - 2 * n⟩ = false) : buyRes W k n = (W, false) := by unfold buyRes; rw [h]; simp
theorem buy_y {W : PWork} {k n : Int} (h1 : inB n 1 1000 = true) (h2 : workOk W = true) (h3 : workOk ⟨W.D, W.P, W.pp ++ [⟨k, 100, n⟩], W.m - 2 * n⟩ = true) : buyRes W k n = (⟨W.D, W.P, W.pp ++ [⟨k, 100, n⟩], W.m - 2 * n⟩, true) := by unfold buyRes; rw [if_pos ⟨h1, h2, h3⟩]
theorem buy_yes {W : PWork} {k n mo : Int} (hi : inB n 1 1000 = true) (hm : IntKind.i64.wrap (W.m - 2 * n) = mo) (h : (true && (workOk W && workOk ⟨W.D, W.P, W.pp ++ [⟨k, 100, n⟩], mo⟩)) = true) : workOk W = true ∧ workOk ⟨W.D, W.P, W.pp ++ [⟨k, 100, n⟩], mo⟩ = true ∧ buyRes W k n = (⟨W.D, W.P, W.pp ++ [⟨k, 100, n⟩], mo⟩, true) := by
  simp only [Bool.and_eq_true] at h
  have h1 := workOk_m h.2.1
  have h0 := inB_iff'.1 hi
  rw [IntKind.wrap_i64] at hm
  have h3 : mo = W.m - 2 * n := by omega
  subst h3
  exact ⟨h.2.1, h.2.2, buy_y hi h.2.1 h.2.2⟩
theorem buy_no {W : PWork} {k n mo : Int} (hi : inB n 1 1000 = true) (hm : IntKind.i64.wrap (W.m - 2 * n) = mo) (h : (true && (workOk W && workOk ⟨W.D, W.P, W.pp ++ [⟨k, 100, n⟩], mo⟩)) = false) : buyRes W k n = (W, false) := by
  cases h2 : workOk W with
  | false => exact buy_n2 h2
  | true =>
    have h1 := workOk_m h2
    have h0 := inB_iff'.1 hi
    rw [IntKind.wrap_i64] at hm
    have h3 : mo = W.m - 2 * n := by omega
    subst h3
    rw [h2] at h
    exact buy_n3 (by simpa using h)
theorem reads_blk {w : World} {g n size : Nat} {cs : Array Value} {t : TypeId} (h : w.heap[g]? = some (.cells cs t (0, 0))) (hs : cs.size = n * size) : Reads w w.heap.size size (some ⟨g, 0, none⟩) n cs.toList :=
  ⟨by simp [hs], fun _ => ⟨_, rfl, blk_lt h, fun j u hu => by
    have h1 := (blk_cells h j).1
    have h2 : (Addr.add ⟨g, 0, none⟩ j) = ⟨g, j, none⟩ := by unfold Addr.add; split <;> simp_all
    rw [h2, h1]
    simpa using hu⟩⟩
theorem OwnP.appended {w w' : World} {lo hi n : Nat} {A : Option Addr} {c : Nat} {l m : List PPaper} {v' : Value} (ho : OwnP w lo hi A c l) {b : Nat} (h2 : w'.ownsRow b 105 3 v' n (m.flatMap paperCells)) (hn : n = m.length) (hpos : 0 < n) (hat : v'.ownBlock = (Value.slice A l.length c).ownBlock ∨ v'.ownBlock = some w.heap.size) :
    ∃ A' c' k, v' = .slice A' m.length c' ∧ OwnP w' k (k + 1) A' c' m ∧ (lo ≤ k ∧ k < hi ∨ k = w.heap.size) ∧ k < w'.heap.size := by
  subst hn
  obtain ⟨A', c', rfl⟩ := own_slice h2
  obtain ⟨g, cap, hv, hbg, hglt⟩ := h2.form hpos
  have hg : (Value.slice A' m.length c').ownBlock = some g := by injection hv with e1; subst e1; rfl
  refine ⟨A', c', g, rfl, OwnP.pin h2 hg, ?_, hglt⟩
  rcases hat with h | h
  · left
    rw [hg] at h
    exact ⟨(ho.row.lt g h.symm).1, ho.top g h.symm⟩
  · right
    rw [hg] at h
    injection h
end Go.Proofs.YtlimlolciekimaaGreatDoor
