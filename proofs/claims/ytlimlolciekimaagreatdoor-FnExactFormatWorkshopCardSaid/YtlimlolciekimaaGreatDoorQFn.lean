/- Contracts of the program's and the reference's functions (Work1, WPlain, Work2, Work3, Work4, Work6). -/
import Derived.Deep.RegionHeld3
import Derived.Deep.RegionLaw
import Derived.Test.YtlimlolciekimaaGreatDoorRows
import Derived.Test.YtlimlolciekimaaGreatDoorQFm
import Derived.Test.YtlimlolciekimaaGreatDoorQFf
import Derived.Test.YtlimlolciekimaaGreatDoorQFk
import Derived.Test.YtlimlolciekimaaGreatDoorQFj
import Derived.Test.YtlimlolciekimaaGreatDoorQFl
import Derived.Test.YtlimlolciekimaaGreatDoorQFi
namespace Go.Proofs.YtlimlolciekimaaGreatDoor
open Go.ChangeShapes Go.WideShapes Go.ChangeAt Go.RowKit
set_option linter.unusedVariables false
set_option linter.unusedSimpArgs false
set_option maxRecDepth 10000
structure PWork where
  (D : PDraft) (P : List PItem) (pp : List PPaper) (m : Int)
def workOk (W : PWork) : Bool := draftOk W.D && (catOk W.P && (decide (W.pp.length ≤ 20) && (papOk W.pp && inB W.m 0 1000000)))
theorem workOk_iff {W : PWork} : workOk W = true ↔ draftOk W.D = true ∧ catOk W.P = true ∧ W.pp.length ≤ 20 ∧ papOk W.pp = true ∧ 0 ≤ W.m ∧ W.m ≤ 1000000 := by
  unfold workOk
  simp only [Bool.and_eq_true, decide_eq_true_eq, inB_iff']
theorem workOk_no1 {W : PWork} (h : draftOk W.D = false) : workOk W = false := by unfold workOk; rw [h]; rfl
theorem workOk_no2 {W : PWork} (h : catOk W.P = false) : workOk W = false := by unfold workOk; rw [h]; simp
theorem workOk_no3 {W : PWork} (h : ¬ W.pp.length ≤ 20) : workOk W = false := by unfold workOk; rw [decide_eq_false h]; simp
theorem workOk_no4 {W : PWork} (h : papOk W.pp = false) : workOk W = false := by unfold workOk; rw [h]; simp
theorem workOk_yes {W : PWork} (h1 : draftOk W.D = true) (h2 : catOk W.P = true) (h3 : W.pp.length ≤ 20) (h4 : papOk W.pp = true) : workOk W = inB W.m 0 1000000 := by unfold workOk; rw [h1, h2, h4, decide_eq_true h3]; rfl
set_option maxHeartbeats 3200000 in
theorem i_WorkshopOk (d1 f1 : Int) (ss1 : List ByteArray) (d2 f2 : Int) (ss2 : List ByteArray) (st : List PStep) (P : List PItem) (pp : List PPaper) (m : Int) (B : Nat) (A1 A2 A3 A4 A5 : Option Addr) (c1 c2 c3 c4 c5 : Nat) (w : World) (hS : RdWork w B A1 A2 A3 A4 c4 A5 ⟨d1, f1, ss1, d2, f2, ss2, st⟩ P pp) (hB : B ≤ w.heap.size) :
    Calls Tryz.prog 40 #[.agg #[.int .i64 d1, .int .i64 f1, .slice A1 ss1.length c1, .int .i64 d2, .int .i64 f2, .slice A2 ss2.length c2, .slice A3 st.length c3, .slice A4 P.length c4, .slice A5 pp.length c5, .int .i64 m]] w fun e w' => e = .returned (.bool (workOk ⟨⟨d1, f1, ss1, d2, f2, ss2, st⟩, P, pp, m⟩)) ∧ Below w.heap.size w w' := by
  have hS2 := hS.alloc hB (.cells #[.int .i64 d1, .int .i64 f1, .slice A1 ss1.length c1, .int .i64 d2, .int .i64 f2, .slice A2 ss2.length c2, .slice A3 st.length c3, .slice A4 P.length c4, .slice A5 pp.length c5, .int .i64 m] 33)
  have hka := blk_new w (.cells #[.int .i64 d1, .int .i64 f1, .slice A1 ss1.length c1, .int .i64 d2, .int .i64 f2, .slice A2 ss2.length c2, .slice A3 st.length c3, .slice A4 P.length c4, .slice A5 pp.length c5, .int .i64 m] 33)
  obtain ⟨L, hpl, hL⟩ := hS.i
  have HPL := Lib.hid hpl
  have hpn := hS.p.nb
  clear hpl
  cases h1 : draftOk ⟨d1, f1, ss1, d2, f2, ss2, st⟩
  · have HR := Lib.hid (workOk_no1 (W := (PWork.mk ⟨d1, f1, ss1, d2, f2, ss2, st⟩ P pp m)) h1)
    have H1 := Lib.hid h1
    clear h1
    go_enter Tryz.func40, Tryz.ntmps40
    go_wp2_with (first | (go_at_call 82; refine (i_DraftOk ⟨d1, f1, ss1, d2, f2, ss2, st⟩ B A1 A2 A3 c1 c2 c3 _ (hS2.d) (by simp; omega)).mono ?_; rw [H1.out]; rintro e w1 ⟨rfl, hb1⟩; (have hbw1 : Below w.heap.size w w1 := ((Below.refl _ _).alloc (Nat.le_refl _) _).trans (hb1.mono (by simp))); (have hk1 := blk_next hka hb1); obtain ⟨hx0, hx1, hx2, hx3, hx4, hx5, hx6, hx7, hx8, hx9, hxl⟩ := blk10 hk1))
    go_ret
    exact ⟨ret_bool HR.out.symm, hbw1⟩
  · cases h2 : catOk P
    · have HR := Lib.hid (workOk_no2 (W := (PWork.mk ⟨d1, f1, ss1, d2, f2, ss2, st⟩ P pp m)) h2)
      have H1 := Lib.hid h1
      have H2 := Lib.hid h2
      clear h1 h2
      go_enter Tryz.func40, Tryz.ntmps40
      go_wp2_with (first | (go_at_call 82; refine (i_DraftOk ⟨d1, f1, ss1, d2, f2, ss2, st⟩ B A1 A2 A3 c1 c2 c3 _ (hS2.d) (by simp; omega)).mono ?_; rw [H1.out]; rintro e w1 ⟨rfl, hb1⟩; (have hbw1 : Below w.heap.size w w1 := ((Below.refl _ _).alloc (Nat.le_refl _) _).trans (hb1.mono (by simp))); (have hk1 := blk_next hka hb1); obtain ⟨hx0, hx1, hx2, hx3, hx4, hx5, hx6, hx7, hx8, hx9, hxl⟩ := blk10 hk1) | (go_at_call 83; refine (i_CatalogOk P B A4 P.length c4 L _ HPL.out (hL.below (hbw1.mono hB)) (Nat.le_trans hB hbw1.size)).mono ?_; rw [H2.out]; rintro e w2 ⟨rfl, hb2⟩; (have hbw2 : Below w.heap.size w w2 := hbw1.trans (hb2.mono hbw1.size)); (have hk2 := blk_next hk1 hb2); clear hx0 hx1 hx2 hx3 hx4 hx5 hx6 hx7 hx8 hx9 hxl; obtain ⟨hx0, hx1, hx2, hx3, hx4, hx5, hx6, hx7, hx8, hx9, hxl⟩ := blk10 hk2))
      go_ret
      exact ⟨ret_bool HR.out.symm, hbw2⟩
    · by_cases h3 : pp.length ≤ 20
      · cases h4 : papOk pp
        · have hi3 : (pp.length : Int) ≤ 20 := by omega
          have HR := Lib.hid (workOk_no4 (W := (PWork.mk ⟨d1, f1, ss1, d2, f2, ss2, st⟩ P pp m)) h4)
          have H1 := Lib.hid h1
          have H2 := Lib.hid h2
          have H4 := Lib.hid h4
          clear h1 h2 h4
          go_enter Tryz.func40, Tryz.ntmps40
          go_wp2_with (first | (go_at_call 82; refine (i_DraftOk ⟨d1, f1, ss1, d2, f2, ss2, st⟩ B A1 A2 A3 c1 c2 c3 _ (hS2.d) (by simp; omega)).mono ?_; rw [H1.out]; rintro e w1 ⟨rfl, hb1⟩; (have hbw1 : Below w.heap.size w w1 := ((Below.refl _ _).alloc (Nat.le_refl _) _).trans (hb1.mono (by simp))); (have hk1 := blk_next hka hb1); obtain ⟨hx0, hx1, hx2, hx3, hx4, hx5, hx6, hx7, hx8, hx9, hxl⟩ := blk10 hk1) | (go_at_call 83; refine (i_CatalogOk P B A4 P.length c4 L _ HPL.out (hL.below (hbw1.mono hB)) (Nat.le_trans hB hbw1.size)).mono ?_; rw [H2.out]; rintro e w2 ⟨rfl, hb2⟩; (have hbw2 : Below w.heap.size w w2 := hbw1.trans (hb2.mono hbw1.size)); (have hk2 := blk_next hk1 hb2); clear hx0 hx1 hx2 hx3 hx4 hx5 hx6 hx7 hx8 hx9 hxl; obtain ⟨hx0, hx1, hx2, hx3, hx4, hx5, hx6, hx7, hx8, hx9, hxl⟩ := blk10 hk2) | (go_at_call 67; refine (i_arePapers pp B A5 pp.length c5 _ (hS.p.below (hbw2.mono hB)) (Nat.le_trans hB hbw2.size)).mono ?_; rw [H4.out]; rintro e w3 ⟨rfl, hb3⟩; (have hbw3 : Below w.heap.size w w3 := hbw2.trans (hb3.mono hbw2.size)); (have hk3 := blk_next hk2 hb3); clear hx0 hx1 hx2 hx3 hx4 hx5 hx6 hx7 hx8 hx9 hxl; obtain ⟨hx0, hx1, hx2, hx3, hx4, hx5, hx6, hx7, hx8, hx9, hxl⟩ := blk10 hk3))
          go_ret
          exact ⟨ret_bool HR.out.symm, hbw3⟩
        · have hi3 : (pp.length : Int) ≤ 20 := by omega
          have HR := Lib.hid (workOk_yes (W := (PWork.mk ⟨d1, f1, ss1, d2, f2, ss2, st⟩ P pp m)) h1 h2 h3 h4)
          have H1 := Lib.hid h1
          have H2 := Lib.hid h2
          have H4 := Lib.hid h4
          clear h1 h2 h4
          go_enter Tryz.func40, Tryz.ntmps40
          go_wp2_with (first | (go_at_call 82; refine (i_DraftOk ⟨d1, f1, ss1, d2, f2, ss2, st⟩ B A1 A2 A3 c1 c2 c3 _ (hS2.d) (by simp; omega)).mono ?_; rw [H1.out]; rintro e w1 ⟨rfl, hb1⟩; (have hbw1 : Below w.heap.size w w1 := ((Below.refl _ _).alloc (Nat.le_refl _) _).trans (hb1.mono (by simp))); (have hk1 := blk_next hka hb1); obtain ⟨hx0, hx1, hx2, hx3, hx4, hx5, hx6, hx7, hx8, hx9, hxl⟩ := blk10 hk1) | (go_at_call 83; refine (i_CatalogOk P B A4 P.length c4 L _ HPL.out (hL.below (hbw1.mono hB)) (Nat.le_trans hB hbw1.size)).mono ?_; rw [H2.out]; rintro e w2 ⟨rfl, hb2⟩; (have hbw2 : Below w.heap.size w w2 := hbw1.trans (hb2.mono hbw1.size)); (have hk2 := blk_next hk1 hb2); clear hx0 hx1 hx2 hx3 hx4 hx5 hx6 hx7 hx8 hx9 hxl; obtain ⟨hx0, hx1, hx2, hx3, hx4, hx5, hx6, hx7, hx8, hx9, hxl⟩ := blk10 hk2) | (go_at_call 67; refine (i_arePapers pp B A5 pp.length c5 _ (hS.p.below (hbw2.mono hB)) (Nat.le_trans hB hbw2.size)).mono ?_; rw [H4.out]; rintro e w3 ⟨rfl, hb3⟩; (have hbw3 : Below w.heap.size w w3 := hbw2.trans (hb3.mono hbw2.size)); (have hk3 := blk_next hk2 hb3); clear hx0 hx1 hx2 hx3 hx4 hx5 hx6 hx7 hx8 hx9 hxl; obtain ⟨hx0, hx1, hx2, hx3, hx4, hx5, hx6, hx7, hx8, hx9, hxl⟩ := blk10 hk3) | (go_at_call 71; refine (i_within _ _ _ _).mono ?_; rintro e w' ⟨rfl, rfl⟩))
          go_ret
          exact ⟨ret_bool HR.out.symm, hbw3⟩
      · have hi3 : ¬ (pp.length : Int) ≤ 20 := by omega
        have HR := Lib.hid (workOk_no3 (W := (PWork.mk ⟨d1, f1, ss1, d2, f2, ss2, st⟩ P pp m)) h3)
        have H1 := Lib.hid h1
        have H2 := Lib.hid h2
        clear h1 h2
        go_enter Tryz.func40, Tryz.ntmps40
        go_wp2_with (first | (go_at_call 82; refine (i_DraftOk ⟨d1, f1, ss1, d2, f2, ss2, st⟩ B A1 A2 A3 c1 c2 c3 _ (hS2.d) (by simp; omega)).mono ?_; rw [H1.out]; rintro e w1 ⟨rfl, hb1⟩; (have hbw1 : Below w.heap.size w w1 := ((Below.refl _ _).alloc (Nat.le_refl _) _).trans (hb1.mono (by simp))); (have hk1 := blk_next hka hb1); obtain ⟨hx0, hx1, hx2, hx3, hx4, hx5, hx6, hx7, hx8, hx9, hxl⟩ := blk10 hk1) | (go_at_call 83; refine (i_CatalogOk P B A4 P.length c4 L _ HPL.out (hL.below (hbw1.mono hB)) (Nat.le_trans hB hbw1.size)).mono ?_; rw [H2.out]; rintro e w2 ⟨rfl, hb2⟩; (have hbw2 : Below w.heap.size w w2 := hbw1.trans (hb2.mono hbw1.size)); (have hk2 := blk_next hk1 hb2); clear hx0 hx1 hx2 hx3 hx4 hx5 hx6 hx7 hx8 hx9 hxl; obtain ⟨hx0, hx1, hx2, hx3, hx4, hx5, hx6, hx7, hx8, hx9, hxl⟩ := blk10 hk2))
        go_ret
        exact ⟨ret_bool HR.out.symm, hbw2⟩
set_option maxHeartbeats 3200000 in
theorem s_WorkshopOk (d1 f1 : Int) (ss1 : List ByteArray) (d2 f2 : Int) (ss2 : List ByteArray) (st : List PStep) (P : List PItem) (pp : List PPaper) (m : Int) (B : Nat) (A1 A2 A3 A4 A5 : Option Addr) (c1 c2 c3 c4 c5 : Nat) (w : World) (hS : RdWork w B A1 A2 A3 A4 c4 A5 ⟨d1, f1, ss1, d2, f2, ss2, st⟩ P pp) (hB : B ≤ w.heap.size) :
    Calls Tryz.prog 47 #[.agg #[.int .i64 d1, .int .i64 f1, .slice A1 ss1.length c1, .int .i64 d2, .int .i64 f2, .slice A2 ss2.length c2, .slice A3 st.length c3, .slice A4 P.length c4, .slice A5 pp.length c5, .int .i64 m]] w fun e w' => e = .returned (.bool (workOk ⟨⟨d1, f1, ss1, d2, f2, ss2, st⟩, P, pp, m⟩)) ∧ Below w.heap.size w w' := by
  have hS2 := hS.alloc hB (.cells #[.int .i64 d1, .int .i64 f1, .slice A1 ss1.length c1, .int .i64 d2, .int .i64 f2, .slice A2 ss2.length c2, .slice A3 st.length c3, .slice A4 P.length c4, .slice A5 pp.length c5, .int .i64 m] 33)
  have hka := blk_new w (.cells #[.int .i64 d1, .int .i64 f1, .slice A1 ss1.length c1, .int .i64 d2, .int .i64 f2, .slice A2 ss2.length c2, .slice A3 st.length c3, .slice A4 P.length c4, .slice A5 pp.length c5, .int .i64 m] 33)
  obtain ⟨L, hpl, hL⟩ := hS.i
  have HPL := Lib.hid hpl
  have hpn := hS.p.nb
  clear hpl
  cases h1 : draftOk ⟨d1, f1, ss1, d2, f2, ss2, st⟩
  · have HR := Lib.hid (workOk_no1 (W := (PWork.mk ⟨d1, f1, ss1, d2, f2, ss2, st⟩ P pp m)) h1)
    have H1 := Lib.hid h1
    clear h1
    go_enter Tryz.func47, Tryz.ntmps47
    go_wp2_with (first | (go_at_call 92; refine (s_DraftOk ⟨d1, f1, ss1, d2, f2, ss2, st⟩ B A1 A2 A3 c1 c2 c3 _ (hS2.d) (by simp; omega)).mono ?_; rw [H1.out]; rintro e w1 ⟨rfl, hb1⟩; (have hbw1 : Below w.heap.size w w1 := ((Below.refl _ _).alloc (Nat.le_refl _) _).trans (hb1.mono (by simp))); (have hk1 := blk_next hka hb1); obtain ⟨hx0, hx1, hx2, hx3, hx4, hx5, hx6, hx7, hx8, hx9, hxl⟩ := blk10 hk1))
    go_ret
    exact ⟨ret_bool HR.out.symm, hbw1⟩
  · cases h2 : catOk P
    · have HR := Lib.hid (workOk_no2 (W := (PWork.mk ⟨d1, f1, ss1, d2, f2, ss2, st⟩ P pp m)) h2)
      have H1 := Lib.hid h1
      have H2 := Lib.hid h2
      clear h1 h2
      go_enter Tryz.func47, Tryz.ntmps47
      go_wp2_with (first | (go_at_call 92; refine (s_DraftOk ⟨d1, f1, ss1, d2, f2, ss2, st⟩ B A1 A2 A3 c1 c2 c3 _ (hS2.d) (by simp; omega)).mono ?_; rw [H1.out]; rintro e w1 ⟨rfl, hb1⟩; (have hbw1 : Below w.heap.size w w1 := ((Below.refl _ _).alloc (Nat.le_refl _) _).trans (hb1.mono (by simp))); (have hk1 := blk_next hka hb1); obtain ⟨hx0, hx1, hx2, hx3, hx4, hx5, hx6, hx7, hx8, hx9, hxl⟩ := blk10 hk1) | (go_at_call 93; refine (s_CatalogOk P B A4 P.length c4 L _ HPL.out (hL.below (hbw1.mono hB)) (Nat.le_trans hB hbw1.size)).mono ?_; rw [H2.out]; rintro e w2 ⟨rfl, hb2⟩; (have hbw2 : Below w.heap.size w w2 := hbw1.trans (hb2.mono hbw1.size)); (have hk2 := blk_next hk1 hb2); clear hx0 hx1 hx2 hx3 hx4 hx5 hx6 hx7 hx8 hx9 hxl; obtain ⟨hx0, hx1, hx2, hx3, hx4, hx5, hx6, hx7, hx8, hx9, hxl⟩ := blk10 hk2))
      go_ret
      exact ⟨ret_bool HR.out.symm, hbw2⟩
    · cases h4 : papOk pp
      · have HR := Lib.hid (workOk_no4 (W := (PWork.mk ⟨d1, f1, ss1, d2, f2, ss2, st⟩ P pp m)) h4)
        have H1 := Lib.hid h1
        have H2 := Lib.hid h2
        have H4 := Lib.hid h4
        clear h1 h2 h4
        go_enter Tryz.func47, Tryz.ntmps47
        go_wp2_with (first | (go_at_call 92; refine (s_DraftOk ⟨d1, f1, ss1, d2, f2, ss2, st⟩ B A1 A2 A3 c1 c2 c3 _ (hS2.d) (by simp; omega)).mono ?_; rw [H1.out]; rintro e w1 ⟨rfl, hb1⟩; (have hbw1 : Below w.heap.size w w1 := ((Below.refl _ _).alloc (Nat.le_refl _) _).trans (hb1.mono (by simp))); (have hk1 := blk_next hka hb1); obtain ⟨hx0, hx1, hx2, hx3, hx4, hx5, hx6, hx7, hx8, hx9, hxl⟩ := blk10 hk1) | (go_at_call 93; refine (s_CatalogOk P B A4 P.length c4 L _ HPL.out (hL.below (hbw1.mono hB)) (Nat.le_trans hB hbw1.size)).mono ?_; rw [H2.out]; rintro e w2 ⟨rfl, hb2⟩; (have hbw2 : Below w.heap.size w w2 := hbw1.trans (hb2.mono hbw1.size)); (have hk2 := blk_next hk1 hb2); clear hx0 hx1 hx2 hx3 hx4 hx5 hx6 hx7 hx8 hx9 hxl; obtain ⟨hx0, hx1, hx2, hx3, hx4, hx5, hx6, hx7, hx8, hx9, hxl⟩ := blk10 hk2) | (go_at_call 94; refine (s_l23Ok pp B A5 pp.length c5 _ (hS.p.below (hbw2.mono hB)) (Nat.le_trans hB hbw2.size)).mono ?_; rw [H4.out]; rintro e w3 ⟨rfl, hb3⟩; (have hbw3 : Below w.heap.size w w3 := hbw2.trans (hb3.mono hbw2.size)); (have hk3 := blk_next hk2 hb3); clear hx0 hx1 hx2 hx3 hx4 hx5 hx6 hx7 hx8 hx9 hxl; obtain ⟨hx0, hx1, hx2, hx3, hx4, hx5, hx6, hx7, hx8, hx9, hxl⟩ := blk10 hk3))
        go_ret
        exact ⟨ret_bool HR.out.symm, hbw3⟩
      · by_cases h3 : pp.length ≤ 20
        · have hi3 : (pp.length : Int) ≤ 20 := by omega
          have HR := Lib.hid (workOk_yes (W := (PWork.mk ⟨d1, f1, ss1, d2, f2, ss2, st⟩ P pp m)) h1 h2 h3 h4)
          have H1 := Lib.hid h1
          have H2 := Lib.hid h2
          have H4 := Lib.hid h4
          clear h1 h2 h4
          go_enter Tryz.func47, Tryz.ntmps47
          go_wp2_with (first | (go_at_call 92; refine (s_DraftOk ⟨d1, f1, ss1, d2, f2, ss2, st⟩ B A1 A2 A3 c1 c2 c3 _ (hS2.d) (by simp; omega)).mono ?_; rw [H1.out]; rintro e w1 ⟨rfl, hb1⟩; (have hbw1 : Below w.heap.size w w1 := ((Below.refl _ _).alloc (Nat.le_refl _) _).trans (hb1.mono (by simp))); (have hk1 := blk_next hka hb1); obtain ⟨hx0, hx1, hx2, hx3, hx4, hx5, hx6, hx7, hx8, hx9, hxl⟩ := blk10 hk1) | (go_at_call 93; refine (s_CatalogOk P B A4 P.length c4 L _ HPL.out (hL.below (hbw1.mono hB)) (Nat.le_trans hB hbw1.size)).mono ?_; rw [H2.out]; rintro e w2 ⟨rfl, hb2⟩; (have hbw2 : Below w.heap.size w w2 := hbw1.trans (hb2.mono hbw1.size)); (have hk2 := blk_next hk1 hb2); clear hx0 hx1 hx2 hx3 hx4 hx5 hx6 hx7 hx8 hx9 hxl; obtain ⟨hx0, hx1, hx2, hx3, hx4, hx5, hx6, hx7, hx8, hx9, hxl⟩ := blk10 hk2) | (go_at_call 94; refine (s_l23Ok pp B A5 pp.length c5 _ (hS.p.below (hbw2.mono hB)) (Nat.le_trans hB hbw2.size)).mono ?_; rw [H4.out]; rintro e w3 ⟨rfl, hb3⟩; (have hbw3 : Below w.heap.size w w3 := hbw2.trans (hb3.mono hbw2.size)); (have hk3 := blk_next hk2 hb3); clear hx0 hx1 hx2 hx3 hx4 hx5 hx6 hx7 hx8 hx9 hxl; obtain ⟨hx0, hx1, hx2, hx3, hx4, hx5, hx6, hx7, hx8, hx9, hxl⟩ := blk10 hk3) | (go_at_call 95; refine (s_l01In _ _ _ _).mono ?_; rintro e w' ⟨rfl, rfl⟩))
          go_ret
          exact ⟨ret_bool HR.out.symm, hbw3⟩
        · have hi3 : ¬ (pp.length : Int) ≤ 20 := by omega
          have HR := Lib.hid (workOk_no3 (W := (PWork.mk ⟨d1, f1, ss1, d2, f2, ss2, st⟩ P pp m)) h3)
          have H1 := Lib.hid h1
          have H2 := Lib.hid h2
          have H4 := Lib.hid h4
          clear h1 h2 h4
          go_enter Tryz.func47, Tryz.ntmps47
          go_wp2_with (first | (go_at_call 92; refine (s_DraftOk ⟨d1, f1, ss1, d2, f2, ss2, st⟩ B A1 A2 A3 c1 c2 c3 _ (hS2.d) (by simp; omega)).mono ?_; rw [H1.out]; rintro e w1 ⟨rfl, hb1⟩; (have hbw1 : Below w.heap.size w w1 := ((Below.refl _ _).alloc (Nat.le_refl _) _).trans (hb1.mono (by simp))); (have hk1 := blk_next hka hb1); obtain ⟨hx0, hx1, hx2, hx3, hx4, hx5, hx6, hx7, hx8, hx9, hxl⟩ := blk10 hk1) | (go_at_call 93; refine (s_CatalogOk P B A4 P.length c4 L _ HPL.out (hL.below (hbw1.mono hB)) (Nat.le_trans hB hbw1.size)).mono ?_; rw [H2.out]; rintro e w2 ⟨rfl, hb2⟩; (have hbw2 : Below w.heap.size w w2 := hbw1.trans (hb2.mono hbw1.size)); (have hk2 := blk_next hk1 hb2); clear hx0 hx1 hx2 hx3 hx4 hx5 hx6 hx7 hx8 hx9 hxl; obtain ⟨hx0, hx1, hx2, hx3, hx4, hx5, hx6, hx7, hx8, hx9, hxl⟩ := blk10 hk2) | (go_at_call 94; refine (s_l23Ok pp B A5 pp.length c5 _ (hS.p.below (hbw2.mono hB)) (Nat.le_trans hB hbw2.size)).mono ?_; rw [H4.out]; rintro e w3 ⟨rfl, hb3⟩; (have hbw3 : Below w.heap.size w w3 := hbw2.trans (hb3.mono hbw2.size)); (have hk3 := blk_next hk2 hb3); clear hx0 hx1 hx2 hx3 hx4 hx5 hx6 hx7 hx8 hx9 hxl; obtain ⟨hx0, hx1, hx2, hx3, hx4, hx5, hx6, hx7, hx8, hx9, hxl⟩ := blk10 hk3))
          go_ret
          exact ⟨ret_bool HR.out.symm, hbw3⟩
end Go.Proofs.YtlimlolciekimaaGreatDoor
namespace Go.Proofs.YtlimlolciekimaaGreatDoor
open Go.ChangeShapes Go.WideShapes Go.ChangeAt Go.RowKit
set_option linter.unusedVariables false
set_option linter.unusedSimpArgs false
set_option maxRecDepth 10000
theorem sameCard_iff {d f d2 f2 : Int} {ss ts : List ByteArray} : sameCard d f d2 f2 ss ts = true ↔ d = d2 ∧ f = f2 ∧ ss = ts := by
  unfold sameCard eqSS
  simp
theorem draftOk_iff {D : PDraft} : draftOk D = true ↔ (cardOk D.d1 D.f1 D.ss1 = true ∧ D.st.length ≤ 40) ∧ D.d1 = D.d2 ∧ D.f1 = D.f2 ∧ runSteps D.d1 D.f1 D.st D.ss1 = some D.ss2 := by
  unfold draftOk
  simp only [Bool.and_eq_true, decide_eq_true_eq]
  constructor
  · rintro ⟨h1, h2⟩
    refine ⟨h1, ?_⟩
    split at h2
    · rename_i sn hr
      obtain ⟨a, b, c⟩ := sameCard_iff.1 h2
      exact ⟨a, b, by rw [hr, c]⟩
    · cases h2
  · rintro ⟨h1, h2, h3, h4⟩
    refine ⟨h1, ?_⟩
    rw [h4]
    exact sameCard_iff.2 ⟨h2, h3, rfl⟩
theorem bytesLess_trans : ∀ {a b c : List UInt8}, Op.bytesLess a b = true → Op.bytesLess b c = true → Op.bytesLess a c = true
  | [], [], _, h, _ => by simp [Op.bytesLess] at h
  | [], _ :: _, [], _, h => by simp [Op.bytesLess] at h
  | [], _ :: _, _ :: _, _, _ => by simp [Op.bytesLess]
  | _ :: _, [], _, h, _ => by simp [Op.bytesLess] at h
  | _ :: _, _ :: _, [], _, h => by simp [Op.bytesLess] at h
  | a :: x, b :: y, c :: z, h1, h2 => by
    simp only [Op.bytesLess, Bool.or_eq_true, Bool.and_eq_true, decide_eq_true_eq, beq_iff_eq] at h1 h2 ⊢
    rcases h1 with h1 | ⟨rfl, h1⟩
    · rcases h2 with h2 | ⟨rfl, h2⟩
      · exact .inl (UInt8.lt_trans h1 h2)
      · exact .inl h1
    · rcases h2 with h2 | ⟨rfl, h2⟩
      · exact .inl h2
      · exact .inr ⟨rfl, bytesLess_trans h1 h2⟩
theorem bytesLess_total : ∀ (a b : List UInt8), Op.bytesLess a b = false → a ≠ b → Op.bytesLess b a = true
  | [], [], _, h => absurd rfl h
  | [], _ :: _, h, _ => by simp [Op.bytesLess] at h
  | _ :: _, [], _, _ => by simp [Op.bytesLess]
  | a :: x, b :: y, h, hne => by
    simp only [Op.bytesLess, Bool.or_eq_false_iff, Bool.and_eq_false_iff, decide_eq_false_iff_not, beq_eq_false_iff_ne] at h
    simp only [Op.bytesLess, Bool.or_eq_true, Bool.and_eq_true, decide_eq_true_eq, beq_iff_eq]
    by_cases hab : b < a
    · exact .inl hab
    · have hba : a = b := UInt8.le_antisymm (UInt8.not_lt.1 hab) (UInt8.not_lt.1 h.1)
      subst hba
      refine .inr ⟨rfl, bytesLess_total x y ?_ (fun e => hne (by rw [e]))⟩
      rcases h.2 with h2 | h2
      · exact absurd rfl h2
      · exact h2
theorem bytesLess_irrefl : ∀ (a : List UInt8), Op.bytesLess a a = false
  | [] => rfl
  | a :: x => by simp [Op.bytesLess, UInt8.lt_irrefl, bytesLess_irrefl x]
theorem nmLe_not {a b : ByteArray} : nmLe a b = false ↔ Op.bytesLess b.toList a.toList = true := by
  unfold nmLe
  simp only [Bool.or_eq_false_iff, beq_eq_false_iff_ne]
  constructor
  · rintro ⟨h1, h2⟩; exact bytesLess_total _ _ h1 h2
  · intro h
    refine ⟨?_, fun e => ?_⟩
    · cases h2 : Op.bytesLess a.toList b.toList
      · rfl
      · have := bytesLess_trans h h2
        rw [bytesLess_irrefl] at this; cases this
    · rw [e, bytesLess_irrefl] at h; cases h
theorem catOk_iff {P : List PItem} : catOk P = true ↔ P.length ≤ 20 ∧ (∀ x ∈ P, nameOk x.nm = true ∧ cardOk x.d x.f x.ss = true) ∧ P.Pairwise (fun a b => Op.bytesLess a.nm.toList b.nm.toList = true) := by
  unfold catOk
  simp only [Bool.and_eq_true, List.all_eq_true, List.mem_range, decide_eq_true_eq]
  have key : ∀ i, (hi : i < P.length) → (itGood P i = true ↔ (nameOk P[i].nm = true ∧ cardOk P[i].d P[i].f P[i].ss = true) ∧ (∀ j, (hj : j + 1 = i) → Op.bytesLess (P[j]'(by omega)).nm.toList P[i].nm.toList = true)) := by
    intro i hi
    cases i with
    | zero =>
      rw [itGood_0 (List.getElem?_eq_getElem hi)]
      simp only [Bool.and_eq_true]
      exact ⟨fun h => ⟨h, fun j hj => by omega⟩, fun h => h.1⟩
    | succ k =>
      rw [itGood_s (List.getElem?_eq_getElem hi) (List.getElem?_eq_getElem (by omega))]
      simp only [Bool.and_eq_true, Bool.not_eq_true', nmLe_not]
      exact ⟨fun h => ⟨h.1, fun j hj => by have : j = k := by omega
                                           subst this; exact h.2⟩, fun h => ⟨h.1, h.2 k rfl⟩⟩
  constructor
  · rintro ⟨h1, h2⟩
    refine ⟨h2, fun x hx => ?_, ?_⟩
    · obtain ⟨i, hi, rfl⟩ := List.getElem_of_mem hx
      exact ((key i hi).1 (h1 i hi)).1
    · rw [List.pairwise_iff_getElem]
      have hstep : ∀ i, (hi : i + 1 < P.length) → Op.bytesLess P[i].nm.toList P[i + 1].nm.toList = true := fun i hi => ((key (i + 1) hi).1 (h1 (i + 1) hi)).2 i rfl
      intro i j hi hj hij
      induction j with
      | zero => omega
      | succ j ih =>
        rcases Nat.lt_or_ge i j with h3 | h3
        · exact bytesLess_trans (ih (by omega) h3) (hstep j hj)
        · have : i = j := by omega
          subst this
          exact hstep i hj
  · rintro ⟨h1, h2, h3⟩
    refine ⟨fun i hi => (key i hi).2 ⟨h2 _ (List.getElem_mem hi), fun j hj => ?_⟩, h1⟩
    rw [List.pairwise_iff_getElem] at h3
    exact h3 j i (by omega) hi (by omega)
end Go.Proofs.YtlimlolciekimaaGreatDoor
namespace Go.Proofs.YtlimlolciekimaaGreatDoor
open Go.ChangeShapes Go.WideShapes Go.ChangeAt Go.RowKit
set_option linter.unusedVariables false
set_option linter.unusedSimpArgs false
set_option maxRecDepth 10000
def shapeRes (W : PWork) (s : PStep) : PWork × Bool := if workOk W = true ∧ 1 ≤ W.m ∧ (doRes W.D s).2 = true then (⟨(doRes W.D s).1, W.P, W.pp, W.m - 1⟩, true) else (W, false)
def unshapeRes (W : PWork) : PWork × Bool := if workOk W = true ∧ (undoRes W.D).2 = true then (⟨(undoRes W.D).1, W.P, W.pp, W.m⟩, true) else (W, false)
def forgetRes (W : PWork) (nm : ByteArray) : PWork × Bool := if workOk W = true ∧ (dropped W.P nm).2 = true then (⟨W.D, (dropped W.P nm).1, W.pp, W.m⟩, true) else (W, false)
def keepRes (W : PWork) (nm : ByteArray) : PWork × Bool := if workOk W = true ∧ (added W.P ⟨nm, W.D.d2, W.D.f2, W.D.ss2⟩).2 = true then (⟨W.D, (added W.P ⟨nm, W.D.d2, W.D.f2, W.D.ss2⟩).1, W.pp, W.m⟩, true) else (W, false)
end Go.Proofs.YtlimlolciekimaaGreatDoor
namespace Go.Proofs.YtlimlolciekimaaGreatDoor
open Go.ChangeShapes Go.WideShapes Go.ChangeAt Go.RowKit
set_option linter.unusedVariables false
set_option linter.unusedSimpArgs false
set_option maxRecDepth 10000
def makeRes (W : PWork) (nm : ByteArray) (k n : Int) : PWork × Bool :=
  if inB n 1 1000 = true ∧ workOk W = true ∧ (named W.P nm).2.2 = true ∧ (useRes W.pp k n).2 = true ∧ W.m + 5 * n ≤ 1000000 then (⟨W.D, W.P, (useRes W.pp k n).1, W.m + 5 * n⟩, true) else (W, false)
def buyRes (W : PWork) (k n : Int) : PWork × Bool :=
  if inB n 1 1000 = true ∧ workOk W = true ∧ workOk ⟨W.D, W.P, W.pp ++ [⟨k, 100, n⟩], W.m - 2 * n⟩ = true then (⟨W.D, W.P, W.pp ++ [⟨k, 100, n⟩], W.m - 2 * n⟩, true) else (W, false)
end Go.Proofs.YtlimlolciekimaaGreatDoor
