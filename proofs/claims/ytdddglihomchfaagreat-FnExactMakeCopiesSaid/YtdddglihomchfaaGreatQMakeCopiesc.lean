/- FnExactMakeCopies: the contracts behind it, part 3. -/
import Derived.Deep.DeepCutAuto
import Derived.Deep.RegionHeld3
import Derived.Test.YtdddglihomchfaaGreatRows
import Derived.Test.YtdddglihomchfaaGreatQMakeCopiesb
namespace Go.Proofs.YtdddglihomchfaaGreat
open Go.ChangeShapes Go.WideShapes Go.ChangeAt Go.RowKit
set_option linter.unusedVariables false
set_option maxRecDepth 10000
theorem flips_stepK (at_ : Int) (ss : List ByteArray) (F K : Nat) (hF : F ≤ K) (h : K < ss.length) : (flips at_ ss F (K - F)).set K (swapB ss[K] at_) = flips at_ ss F (K + 1 - F) := by
  obtain ⟨j, rfl⟩ : ∃ j, K = F + j := ⟨K - F, by omega⟩
  rw [show F + j - F = j by omega, show F + j + 1 - F = j + 1 by omega]
  exact flips_step at_ ss F j h
theorem allC_stepK {c : UInt8} {at_ : Int} {ss : List ByteArray} {F K : Nat} (hF : F ≤ K) (h : K < ss.length) (ha : allC c at_ ss F (K - F) = true) (hc : cornerB c ss[K] at_ = true) : allC c at_ ss F (K + 1 - F) = true := by
  obtain ⟨j, rfl⟩ : ∃ j, K = F + j := ⟨K - F, by omega⟩
  rw [show F + j - F = j by omega] at ha
  rw [show F + j + 1 - F = j + 1 by omega, allC_step c at_ ss F j h, ha, hc]; rfl
theorem allC_stopK {c : UInt8} {at_ : Int} {ss : List ByteArray} {F K m : Nat} (hF : F ≤ K) (h : K < ss.length) (hm : K < m) (hc : cornerB c ss[K] at_ = false) : allC c at_ ss F (m - F) = false := by
  obtain ⟨j, rfl⟩ : ∃ j, K = F + j := ⟨K - F, by omega⟩
  exact allC_stop h (by omega) hc
theorem boxRes_no {c : UInt8} {d f : Int} {ss : List ByteArray} {F L at_ : Int} (h : boxOk d f ss ss.length F L = false) : boxRes c d f ss F L at_ = (ss, false) := by
  unfold boxRes; rw [if_neg (by rw [h]; simp)]
theorem boxRes_stop {c : UInt8} {d f : Int} {ss : List ByteArray} {F L : Nat} {at_ : Int} (h : allC c at_ ss F (L + 1 - F) = false) : boxRes c d f ss F L at_ = (ss, false) := by
  unfold boxRes; simp only [Int.toNat_natCast]; rw [if_neg (by rw [h]; simp)]
theorem boxRes_yes {c : UInt8} {d f : Int} {ss : List ByteArray} {F L : Nat} {at_ : Int} (h0 : boxOk d f ss ss.length F L = true) (h : allC c at_ ss F (L + 1 - F) = true) : boxRes c d f ss F L at_ = (flips at_ ss F (L + 1 - F), true) := by
  unfold boxRes; simp only [Int.toNat_natCast]; rw [if_pos ⟨h0, h⟩]
theorem boxOk_iff {d f : Int} {ss : List ByteArray} {n : Nat} {F L : Int} (h : boxOk d f ss n F L = true) : 0 ≤ F ∧ F ≤ L ∧ L < (n : Int) := by
  unfold boxOk at h
  simp only [Bool.and_eq_true, inB_iff, decide_eq_true_eq] at h
  omega
theorem Strs.grown {w w' : World} {B n g : Nat} {A : Option Addr} {ss : List ByteArray} (h : Strs w B A n ss) (hg : w.grownBy w' (some g)) (hB : B ≤ g) (hw : B ≤ w.heap.size) : Strs w' B A n ss :=
  h.keep fun p hp => World.cell?_of_block (hg.block p.block (by omega) (by intro e; injection e; omega))
set_option maxHeartbeats 1600000 in
theorem i_boxed_LowerAt (d f : Int) (B : Nat) (A : Option Addr) (n c : Nat) (ss : List ByteArray) (F L T : Int) (w : World) (hS : Strs w B A n ss) (hB : B ≤ w.heap.size) :
    Calls Tryz.prog 190 #[.agg #[.int .i64 d, .int .i64 f, .slice A n c], .agg #[.int .i64 F, .int .i64 L, .int .i64 T], .func (.func 192) #[] #[]] w (FreshCardB w.heap.size d f (boxRes 102 d f ss F L T).1 (boxRes 102 d f ss F L T).2 w) := by
  have hn := hS.nb
  have hl := hS.len
  have hS2 := ((hS.alloc hB (.cells #[.int .i64 d, .int .i64 f, .slice A n c] 34)).alloc (by simp; omega) (.cells #[.int .i64 F, .int .i64 L, .int .i64 T] 63)).alloc (by simp; omega) (.cells #[.int .i64 0, .int .i64 0, .slice none 0 0] 34)
  have hsr := hS2.rd
  have HL := Lib.hid hl
  cases hh : boxOk d f ss n F L
  · have HP := Lib.hid (boxRes_no (c := 102) (at_ := T) (show boxOk d f ss ss.length F L = false by rw [hl]; exact hh))
    clear hl
    go_enter Tryz.func190, Tryz.ntmps190
    go_wp2_with (first | (go_at_call 202; refine (i_hasBox _ _ B _ _ _ ss _ _ _ _ hS2 (by simp; omega)).mono ?_; rw [hh]; rintro e w1 ⟨rfl, hb1⟩; obtain ⟨hcb, hfb⟩ := bcell hb1; have hz_w1_0 : w.heap.size < w1.heap.size := (by have hzz := hb1.size; (try simp at hzz); omega); have hy_w1_0 := Nat.le_of_lt hz_w1_0; have hz_w1_1 : w.heap.size + 1 < w1.heap.size := (by have hzz := hb1.size; (try simp at hzz); omega); have hy_w1_1 := Nat.le_of_lt hz_w1_1; have hz_w1_2 : w.heap.size + 1 + 1 < w1.heap.size := (by have hzz := hb1.size; (try simp at hzz); omega); have hy_w1_2 := Nat.le_of_lt hz_w1_2; have hS3 := hS2.below (hb1.mono (by simp; omega))) | (go_at_call 79; refine (i_copied _ _ B _ _ _ ss _ hS3 (by omega)).mono ?_; rintro e w2 ⟨A1, c1, rfl, ho2, hb2⟩; obtain ⟨hcb2, hfb2⟩ := bcell hb2; have hz_w2_0 : w.heap.size < w2.heap.size := (by have hzz := hb2.size; (try simp at hzz); omega); have hy_w2_0 := Nat.le_of_lt hz_w2_0; have hz_w2_1 : w.heap.size + 1 < w2.heap.size := (by have hzz := hb2.size; (try simp at hzz); omega); have hy_w2_1 := Nat.le_of_lt hz_w2_1; have hz_w2_2 : w.heap.size + 1 + 1 < w2.heap.size := (by have hzz := hb2.size; (try simp at hzz); omega); have hy_w2_2 := Nat.le_of_lt hz_w2_2))
    refine bodyPost_ret (v := .tuple #[.agg #[.int .i64 d, .int .i64 f, .slice A1 ss.length c1], .bool false]) (by simp [results, Tryz.results190, go_sem, *]) rfl ?_
    rw [HP.out]
    exact ⟨A1, c1, rfl, own_up ho2 upr (by first | exact Nat.le_refl _ | (simp; done) | omega | (simp; omega) | exact (‹_ ∧ _ ∧ Below _ _ _›).2.2.size), bel⟩
  · obtain ⟨hF0, hFL, hLn⟩ := boxOk_iff hh
    obtain ⟨F, rfl⟩ := Int.eq_ofNat_of_zero_le hF0
    obtain ⟨L, rfl⟩ := Int.eq_ofNat_of_zero_le (show 0 ≤ L by omega)
    have hFL' : F ≤ L := by omega
    have hLn' : L < n := by omega
    have HH := Lib.hid (show boxOk d f ss ss.length F L = true by rw [hl]; exact hh)
    clear hl hF0 hFL hLn hsr
    go_enter Tryz.func190, Tryz.ntmps190
    go_wp2_with (first | (go_at_call 202; refine (i_hasBox _ _ B _ _ _ ss _ _ _ _ hS2 (by simp; omega)).mono ?_; rw [hh]; rintro e w1 ⟨rfl, hb1⟩; obtain ⟨hcb, hfb⟩ := bcell hb1; have hz_w1_0 : w.heap.size < w1.heap.size := (by have hzz := hb1.size; (try simp at hzz); omega); have hy_w1_0 := Nat.le_of_lt hz_w1_0; have hz_w1_1 : w.heap.size + 1 < w1.heap.size := (by have hzz := hb1.size; (try simp at hzz); omega); have hy_w1_1 := Nat.le_of_lt hz_w1_1; have hz_w1_2 : w.heap.size + 1 + 1 < w1.heap.size := (by have hzz := hb1.size; (try simp at hzz); omega); have hy_w1_2 := Nat.le_of_lt hz_w1_2; have hS3 := hS2.below (hb1.mono (by simp; omega))) | (go_at_call 79; refine (i_copied _ _ B _ _ _ ss _ hS3 (by omega)).mono ?_; rintro e w2 ⟨A1, c1, rfl, ho2, hb2⟩; obtain ⟨hcb2, hfb2⟩ := bcell hb2; have hz_w2_0 : w.heap.size < w2.heap.size := (by have hzz := hb2.size; (try simp at hzz); omega); have hy_w2_0 := Nat.le_of_lt hz_w2_0; have hz_w2_1 : w.heap.size + 1 < w2.heap.size := (by have hzz := hb2.size; (try simp at hzz); omega); have hy_w2_1 := Nat.le_of_lt hz_w2_1; have hz_w2_2 : w.heap.size + 1 + 1 < w2.heap.size := (by have hzz := hb2.size; (try simp at hzz); omega); have hy_w2_2 := Nat.le_of_lt hz_w2_2; (have hnl : 0 < ss.length := (by have := HL.out; omega)); obtain ⟨g, cap, hv, hbg, hglt⟩ := ho2.form hnl; (have hA : A1 = some ⟨g, 0, none⟩ := (by injection hv)); subst hA; clear hv; have hS4 := hS3.below (hb2.mono (by omega))))
    have ho3 := ho2.alloc (.cells #[.int .i64 d, .int .i64 f, .slice (some ⟨g, 0, none⟩) ss.length c1] 34)
    have hbA : Below w2.heap.size w2 (w2.alloc (.cells #[.int .i64 d, .int .i64 f, .slice (some ⟨g, 0, none⟩) ss.length c1] 34)) := bel
    have hko : (w2.alloc (.cells #[.int .i64 d, .int .i64 f, .slice (some ⟨g, 0, none⟩) ss.length c1] 34)).heap[w2.heap.size]? = some (.cells #[.int .i64 d, .int .i64 f, .slice (some ⟨g, 0, none⟩) ss.length c1] 34) := blk_new w2 (.cells #[.int .i64 d, .int .i64 f, .slice (some ⟨g, 0, none⟩) ss.length c1] 34)
    have hb3 : Below w.heap.size w (w2.alloc (.cells #[.int .i64 d, .int .i64 f, .slice (some ⟨g, 0, none⟩) ss.length c1] 34)) := bel
    have hS5 := hS4.below (hbA.mono (by omega))
    have hwg : w.heap.size ≤ g := by omega
    have hBg : B ≤ g := by omega
    have hge_g : w.heap.size + 3 ≤ g := (by have hzz := hbg; (try simp at hzz); omega); have hne_g_0 : g ≠ w.heap.size := (by have hzz := hbg; (try simp at hzz); omega); have hne2_g_0 := Ne.symm hne_g_0; have hne_g_1 : g ≠ w.heap.size + 1 := (by have hzz := hbg; (try simp at hzz); omega); have hne2_g_1 := Ne.symm hne_g_1; have hne_g_2 : g ≠ w.heap.size + 1 + 1 := (by have hzz := hbg; (try simp at hzz); omega); have hne2_g_2 := Ne.symm hne_g_2
    go_loopw [9, 10, 11] (fun kk _ _ wr => ∃ K : Nat, F ≤ K ∧ K ≤ L + 1 ∧ kk = .int .i64 K ∧ Hid (allC 102 T ss F (K - F) = true) ∧ wr.ownsRow w1.heap.size 9 1 (.slice (some ⟨g, 0, none⟩) ss.length c1) ss.length ((flips T ss F (K - F)).map Value.string) ∧ (w2.alloc (.cells #[.int .i64 d, .int .i64 f, .slice (some ⟨g, 0, none⟩) ss.length c1] 34)).grownBy wr (some g)) (fun kk _ _ _ => L + 1 - (intOf kk).toNat)
    case atStart => exact ⟨F, Nat.le_refl _, by omega, rfl, by rw [Nat.sub_self]; exact allC_zero _ _ _ _, by rw [Nat.sub_self, flips_zero]; exact ho3, World.grownBy.refl _ _⟩
    case round =>
      obtain ⟨K, hFK, hKL, rfl, HA, hown, hg⟩ := hrel
      have hbr : Below w.heap.size w wr := only_below_B hb3 hg hwg
      have hSr := hS5.grown hg hBg (by simp; omega)
      have hzr : w2.heap.size + 1 ≤ wr.heap.size := by have := hg.size; simpa using this
      obtain ⟨hx0, hx1, hx2, hxl⟩ := blk3 ((hg.block w2.heap.size (by simp) (by intro e; injection e; omega)).trans hko)
      have hcb3 : ∀ b o, b < w2.heap.size → b ≠ g → wr.cell? ⟨b, o, none⟩ = w2.cell? ⟨b, o, none⟩ := fun b o h hne => ((gcell hg).1 b o (by simp; omega) hne).trans ((bcell hbA).1 b o h)
      have hfb3 : ∀ b o, b < w2.heap.size → b ≠ g → wr.frozen? ⟨b, o, none⟩ = w2.frozen? ⟨b, o, none⟩ := fun b o h hne => ((gcell hg).2 b o (by simp; omega) hne).trans ((bcell hbA).2 b o h)
      have hz0 : w.heap.size < wr.heap.size := by omega
      have hz1 : w.heap.size + 1 < wr.heap.size := by omega
      have hz2 : w.heap.size + 1 + 1 < wr.heap.size := by omega
      by_cases hlt : K ≤ L
      · obtain ⟨hKs, ad, hAad, hab, hx, hsz⟩ := hSr.at_ (k := K) (by omega)
        subst hAad
        have hKn : K < n := by omega
        have hKl : K < ss.length := hKs
        have hq : ∀ W : World, Calls Tryz.prog 192 #[.string ss[K], .int .i64 T] W fun e w' => e = .returned (.tuple #[.string (turnRes 102 ss[K] T), .bool (cornerB 102 ss[K] T)]) ∧ ∃ m, w' = W.drewN m := fun W => i_LowerAt _ _ W hsz
        cases hcc : cornerB 102 ss[K] T
        · rw [hcc] at hq
          have HQ := hide hq
          clear hq
          have HP := Lib.hid (boxRes_stop (d := d) (f := f) (L := L) (allC_stopK (m := L + 1) hFK hKs (by omega) hcc))
          clear hcc
          go_wp2
          go_quiet ((go_at_call 192; first | exact quiet_ex (unhide HQ _) | exact quiet_add (unhide HQ _)))
          go_wp2_with (go_at_call 79; refine (i_copied _ _ B _ _ _ ss _ (hSr.drewN _) (by simp; omega)).mono ?_; rintro e w4 ⟨A4, c4, rfl, ho4, hb4'⟩; (have hb4 : Below wr.heap.size wr w4 := ⟨hb4'.os, hb4'.tape, hb4'.output, hb4'.size, hb4'.block⟩); clear hb4'; obtain ⟨hcb4, hfb4⟩ := bcell hb4; have hz_w4_0 : w.heap.size < w4.heap.size := (by have hzz := hb4.size; (try simp at hzz); omega); have hy_w4_0 := Nat.le_of_lt hz_w4_0; have hz_w4_1 : w.heap.size + 1 < w4.heap.size := (by have hzz := hb4.size; (try simp at hzz); omega); have hy_w4_1 := Nat.le_of_lt hz_w4_1; have hz_w4_2 : w.heap.size + 1 + 1 < w4.heap.size := (by have hzz := hb4.size; (try simp at hzz); omega); have hy_w4_2 := Nat.le_of_lt hz_w4_2)
          refine bodyPost_ret (v := .tuple #[.agg #[.int .i64 d, .int .i64 f, .slice A4 ss.length c4], .bool false]) (by simp [results, Tryz.results190, go_sem, *]) rfl ?_
          rw [HP.out]
          exact ⟨A4, c4, rfl, own_up ho4 upr (by first | exact Nat.le_refl _ | (simp; done) | omega | (simp; omega) | exact (‹_ ∧ _ ∧ Below _ _ _›).2.2.size), bel⟩
        · rw [hcc, show turnRes 102 ss[K] T = swapB ss[K] T by unfold turnRes; rw [if_pos hcc]] at hq
          have HQ := hide hq
          clear hq
          have HA2 := Lib.hid (allC_stepK hFK hKs HA.out hcc)
          have HFS := Lib.hid (flips_stepK T ss F K hFK hKs)
          clear hcc
          obtain ⟨u1, hc1⟩ := own_cell hown (j := K) hKl
          have hf1 := hown.frozenAt K
          go_wp2
          go_quiet ((go_at_call 192; first | exact quiet_ex (unhide HQ _) | exact quiet_add (unhide HQ _)))
          go_wp2
          go_roundw
          case rel =>
            have hst := hown.stored K (.string (swapB ss[K] T))
            have ho5 := hst.1
            rw [set_map, HFS.out] at ho5
            have hg5 := only_trans hg hst.2
            exact ⟨K + 1, by omega, by omega, by go_num, HA2.out, by first | exact ho5 | exact ho5.drewN _, by first | exact hg5 | exact only_drewN hg5 _⟩
          case measure => simp [intOf]; omega
      · have hKe : K = L + 1 := by omega
        subst hKe
        have HP := Lib.hid (boxRes_yes HH.out HA.out)
        have HFL := Lib.hid (flips_len T ss F (L + 1 - F))
        go_wp2
        refine bodyPost_ret (v := .tuple #[.agg #[.int .i64 d, .int .i64 f, .slice (some ⟨g, 0, none⟩) ss.length c1], .bool true]) (by simp [results, Tryz.results190, go_sem, *]) rfl ?_
        rw [HP.out]
        unfold FreshCardB
        dsimp only
        rw [HFL.out]
        exact ⟨_, c1, rfl, own_up hown upr (by first | exact Nat.le_refl _ | (simp; done) | omega | (simp; omega) | exact (‹_ ∧ _ ∧ Below _ _ _›).2.2.size), bel⟩
set_option maxHeartbeats 1600000 in
theorem i_boxed_RaiseAt (d f : Int) (B : Nat) (A : Option Addr) (n c : Nat) (ss : List ByteArray) (F L T : Int) (w : World) (hS : Strs w B A n ss) (hB : B ≤ w.heap.size) :
    Calls Tryz.prog 190 #[.agg #[.int .i64 d, .int .i64 f, .slice A n c], .agg #[.int .i64 F, .int .i64 L, .int .i64 T], .func (.func 191) #[] #[]] w (FreshCardB w.heap.size d f (boxRes 100 d f ss F L T).1 (boxRes 100 d f ss F L T).2 w) := by
  have hn := hS.nb
  have hl := hS.len
  have hS2 := ((hS.alloc hB (.cells #[.int .i64 d, .int .i64 f, .slice A n c] 34)).alloc (by simp; omega) (.cells #[.int .i64 F, .int .i64 L, .int .i64 T] 63)).alloc (by simp; omega) (.cells #[.int .i64 0, .int .i64 0, .slice none 0 0] 34)
  have hsr := hS2.rd
  have HL := Lib.hid hl
  cases hh : boxOk d f ss n F L
  · have HP := Lib.hid (boxRes_no (c := 100) (at_ := T) (show boxOk d f ss ss.length F L = false by rw [hl]; exact hh))
    clear hl
    go_enter Tryz.func190, Tryz.ntmps190
    go_wp2_with (first | (go_at_call 202; refine (i_hasBox _ _ B _ _ _ ss _ _ _ _ hS2 (by simp; omega)).mono ?_; rw [hh]; rintro e w1 ⟨rfl, hb1⟩; obtain ⟨hcb, hfb⟩ := bcell hb1; have hz_w1_0 : w.heap.size < w1.heap.size := (by have hzz := hb1.size; (try simp at hzz); omega); have hy_w1_0 := Nat.le_of_lt hz_w1_0; have hz_w1_1 : w.heap.size + 1 < w1.heap.size := (by have hzz := hb1.size; (try simp at hzz); omega); have hy_w1_1 := Nat.le_of_lt hz_w1_1; have hz_w1_2 : w.heap.size + 1 + 1 < w1.heap.size := (by have hzz := hb1.size; (try simp at hzz); omega); have hy_w1_2 := Nat.le_of_lt hz_w1_2; have hS3 := hS2.below (hb1.mono (by simp; omega))) | (go_at_call 79; refine (i_copied _ _ B _ _ _ ss _ hS3 (by omega)).mono ?_; rintro e w2 ⟨A1, c1, rfl, ho2, hb2⟩; obtain ⟨hcb2, hfb2⟩ := bcell hb2; have hz_w2_0 : w.heap.size < w2.heap.size := (by have hzz := hb2.size; (try simp at hzz); omega); have hy_w2_0 := Nat.le_of_lt hz_w2_0; have hz_w2_1 : w.heap.size + 1 < w2.heap.size := (by have hzz := hb2.size; (try simp at hzz); omega); have hy_w2_1 := Nat.le_of_lt hz_w2_1; have hz_w2_2 : w.heap.size + 1 + 1 < w2.heap.size := (by have hzz := hb2.size; (try simp at hzz); omega); have hy_w2_2 := Nat.le_of_lt hz_w2_2))
    refine bodyPost_ret (v := .tuple #[.agg #[.int .i64 d, .int .i64 f, .slice A1 ss.length c1], .bool false]) (by simp [results, Tryz.results190, go_sem, *]) rfl ?_
    rw [HP.out]
    exact ⟨A1, c1, rfl, own_up ho2 upr (by first | exact Nat.le_refl _ | (simp; done) | omega | (simp; omega) | exact (‹_ ∧ _ ∧ Below _ _ _›).2.2.size), bel⟩
  · obtain ⟨hF0, hFL, hLn⟩ := boxOk_iff hh
    obtain ⟨F, rfl⟩ := Int.eq_ofNat_of_zero_le hF0
    obtain ⟨L, rfl⟩ := Int.eq_ofNat_of_zero_le (show 0 ≤ L by omega)
    have hFL' : F ≤ L := by omega
    have hLn' : L < n := by omega
    have HH := Lib.hid (show boxOk d f ss ss.length F L = true by rw [hl]; exact hh)
    clear hl hF0 hFL hLn hsr
    go_enter Tryz.func190, Tryz.ntmps190
    go_wp2_with (first | (go_at_call 202; refine (i_hasBox _ _ B _ _ _ ss _ _ _ _ hS2 (by simp; omega)).mono ?_; rw [hh]; rintro e w1 ⟨rfl, hb1⟩; obtain ⟨hcb, hfb⟩ := bcell hb1; have hz_w1_0 : w.heap.size < w1.heap.size := (by have hzz := hb1.size; (try simp at hzz); omega); have hy_w1_0 := Nat.le_of_lt hz_w1_0; have hz_w1_1 : w.heap.size + 1 < w1.heap.size := (by have hzz := hb1.size; (try simp at hzz); omega); have hy_w1_1 := Nat.le_of_lt hz_w1_1; have hz_w1_2 : w.heap.size + 1 + 1 < w1.heap.size := (by have hzz := hb1.size; (try simp at hzz); omega); have hy_w1_2 := Nat.le_of_lt hz_w1_2; have hS3 := hS2.below (hb1.mono (by simp; omega))) | (go_at_call 79; refine (i_copied _ _ B _ _ _ ss _ hS3 (by omega)).mono ?_; rintro e w2 ⟨A1, c1, rfl, ho2, hb2⟩; obtain ⟨hcb2, hfb2⟩ := bcell hb2; have hz_w2_0 : w.heap.size < w2.heap.size := (by have hzz := hb2.size; (try simp at hzz); omega); have hy_w2_0 := Nat.le_of_lt hz_w2_0; have hz_w2_1 : w.heap.size + 1 < w2.heap.size := (by have hzz := hb2.size; (try simp at hzz); omega); have hy_w2_1 := Nat.le_of_lt hz_w2_1; have hz_w2_2 : w.heap.size + 1 + 1 < w2.heap.size := (by have hzz := hb2.size; (try simp at hzz); omega); have hy_w2_2 := Nat.le_of_lt hz_w2_2; (have hnl : 0 < ss.length := (by have := HL.out; omega)); obtain ⟨g, cap, hv, hbg, hglt⟩ := ho2.form hnl; (have hA : A1 = some ⟨g, 0, none⟩ := (by injection hv)); subst hA; clear hv; have hS4 := hS3.below (hb2.mono (by omega))))
    have ho3 := ho2.alloc (.cells #[.int .i64 d, .int .i64 f, .slice (some ⟨g, 0, none⟩) ss.length c1] 34)
    have hbA : Below w2.heap.size w2 (w2.alloc (.cells #[.int .i64 d, .int .i64 f, .slice (some ⟨g, 0, none⟩) ss.length c1] 34)) := bel
    have hko : (w2.alloc (.cells #[.int .i64 d, .int .i64 f, .slice (some ⟨g, 0, none⟩) ss.length c1] 34)).heap[w2.heap.size]? = some (.cells #[.int .i64 d, .int .i64 f, .slice (some ⟨g, 0, none⟩) ss.length c1] 34) := blk_new w2 (.cells #[.int .i64 d, .int .i64 f, .slice (some ⟨g, 0, none⟩) ss.length c1] 34)
    have hb3 : Below w.heap.size w (w2.alloc (.cells #[.int .i64 d, .int .i64 f, .slice (some ⟨g, 0, none⟩) ss.length c1] 34)) := bel
    have hS5 := hS4.below (hbA.mono (by omega))
    have hwg : w.heap.size ≤ g := by omega
    have hBg : B ≤ g := by omega
    have hge_g : w.heap.size + 3 ≤ g := (by have hzz := hbg; (try simp at hzz); omega); have hne_g_0 : g ≠ w.heap.size := (by have hzz := hbg; (try simp at hzz); omega); have hne2_g_0 := Ne.symm hne_g_0; have hne_g_1 : g ≠ w.heap.size + 1 := (by have hzz := hbg; (try simp at hzz); omega); have hne2_g_1 := Ne.symm hne_g_1; have hne_g_2 : g ≠ w.heap.size + 1 + 1 := (by have hzz := hbg; (try simp at hzz); omega); have hne2_g_2 := Ne.symm hne_g_2
    go_loopw [9, 10, 11] (fun kk _ _ wr => ∃ K : Nat, F ≤ K ∧ K ≤ L + 1 ∧ kk = .int .i64 K ∧ Hid (allC 100 T ss F (K - F) = true) ∧ wr.ownsRow w1.heap.size 9 1 (.slice (some ⟨g, 0, none⟩) ss.length c1) ss.length ((flips T ss F (K - F)).map Value.string) ∧ (w2.alloc (.cells #[.int .i64 d, .int .i64 f, .slice (some ⟨g, 0, none⟩) ss.length c1] 34)).grownBy wr (some g)) (fun kk _ _ _ => L + 1 - (intOf kk).toNat)
    case atStart => exact ⟨F, Nat.le_refl _, by omega, rfl, by rw [Nat.sub_self]; exact allC_zero _ _ _ _, by rw [Nat.sub_self, flips_zero]; exact ho3, World.grownBy.refl _ _⟩
    case round =>
      obtain ⟨K, hFK, hKL, rfl, HA, hown, hg⟩ := hrel
      have hbr : Below w.heap.size w wr := only_below_B hb3 hg hwg
      have hSr := hS5.grown hg hBg (by simp; omega)
      have hzr : w2.heap.size + 1 ≤ wr.heap.size := by have := hg.size; simpa using this
      obtain ⟨hx0, hx1, hx2, hxl⟩ := blk3 ((hg.block w2.heap.size (by simp) (by intro e; injection e; omega)).trans hko)
      have hcb3 : ∀ b o, b < w2.heap.size → b ≠ g → wr.cell? ⟨b, o, none⟩ = w2.cell? ⟨b, o, none⟩ := fun b o h hne => ((gcell hg).1 b o (by simp; omega) hne).trans ((bcell hbA).1 b o h)
      have hfb3 : ∀ b o, b < w2.heap.size → b ≠ g → wr.frozen? ⟨b, o, none⟩ = w2.frozen? ⟨b, o, none⟩ := fun b o h hne => ((gcell hg).2 b o (by simp; omega) hne).trans ((bcell hbA).2 b o h)
      have hz0 : w.heap.size < wr.heap.size := by omega
      have hz1 : w.heap.size + 1 < wr.heap.size := by omega
      have hz2 : w.heap.size + 1 + 1 < wr.heap.size := by omega
      by_cases hlt : K ≤ L
      · obtain ⟨hKs, ad, hAad, hab, hx, hsz⟩ := hSr.at_ (k := K) (by omega)
        subst hAad
        have hKn : K < n := by omega
        have hKl : K < ss.length := hKs
        have hq : ∀ W : World, Calls Tryz.prog 191 #[.string ss[K], .int .i64 T] W fun e w' => e = .returned (.tuple #[.string (turnRes 100 ss[K] T), .bool (cornerB 100 ss[K] T)]) ∧ ∃ m, w' = W.drewN m := fun W => i_RaiseAt _ _ W hsz
        cases hcc : cornerB 100 ss[K] T
        · rw [hcc] at hq
          have HQ := hide hq
          clear hq
          have HP := Lib.hid (boxRes_stop (d := d) (f := f) (L := L) (allC_stopK (m := L + 1) hFK hKs (by omega) hcc))
          clear hcc
          go_wp2
          go_quiet ((go_at_call 191; first | exact quiet_ex (unhide HQ _) | exact quiet_add (unhide HQ _)))
          go_wp2_with (go_at_call 79; refine (i_copied _ _ B _ _ _ ss _ (hSr.drewN _) (by simp; omega)).mono ?_; rintro e w4 ⟨A4, c4, rfl, ho4, hb4'⟩; (have hb4 : Below wr.heap.size wr w4 := ⟨hb4'.os, hb4'.tape, hb4'.output, hb4'.size, hb4'.block⟩); clear hb4'; obtain ⟨hcb4, hfb4⟩ := bcell hb4; have hz_w4_0 : w.heap.size < w4.heap.size := (by have hzz := hb4.size; (try simp at hzz); omega); have hy_w4_0 := Nat.le_of_lt hz_w4_0; have hz_w4_1 : w.heap.size + 1 < w4.heap.size := (by have hzz := hb4.size; (try simp at hzz); omega); have hy_w4_1 := Nat.le_of_lt hz_w4_1; have hz_w4_2 : w.heap.size + 1 + 1 < w4.heap.size := (by have hzz := hb4.size; (try simp at hzz); omega); have hy_w4_2 := Nat.le_of_lt hz_w4_2)
          refine bodyPost_ret (v := .tuple #[.agg #[.int .i64 d, .int .i64 f, .slice A4 ss.length c4], .bool false]) (by simp [results, Tryz.results190, go_sem, *]) rfl ?_
          rw [HP.out]
          exact ⟨A4, c4, rfl, own_up ho4 upr (by first | exact Nat.le_refl _ | (simp; done) | omega | (simp; omega) | exact (‹_ ∧ _ ∧ Below _ _ _›).2.2.size), bel⟩
        · rw [hcc, show turnRes 100 ss[K] T = swapB ss[K] T by unfold turnRes; rw [if_pos hcc]] at hq
          have HQ := hide hq
          clear hq
          have HA2 := Lib.hid (allC_stepK hFK hKs HA.out hcc)
          have HFS := Lib.hid (flips_stepK T ss F K hFK hKs)
          clear hcc
          obtain ⟨u1, hc1⟩ := own_cell hown (j := K) hKl
          have hf1 := hown.frozenAt K
          go_wp2
          go_quiet ((go_at_call 191; first | exact quiet_ex (unhide HQ _) | exact quiet_add (unhide HQ _)))
          go_wp2
          go_roundw
          case rel =>
            have hst := hown.stored K (.string (swapB ss[K] T))
            have ho5 := hst.1
            rw [set_map, HFS.out] at ho5
            have hg5 := only_trans hg hst.2
            exact ⟨K + 1, by omega, by omega, by go_num, HA2.out, by first | exact ho5 | exact ho5.drewN _, by first | exact hg5 | exact only_drewN hg5 _⟩
          case measure => simp [intOf]; omega
      · have hKe : K = L + 1 := by omega
        subst hKe
        have HP := Lib.hid (boxRes_yes HH.out HA.out)
        have HFL := Lib.hid (flips_len T ss F (L + 1 - F))
        go_wp2
        refine bodyPost_ret (v := .tuple #[.agg #[.int .i64 d, .int .i64 f, .slice (some ⟨g, 0, none⟩) ss.length c1], .bool true]) (by simp [results, Tryz.results190, go_sem, *]) rfl ?_
        rw [HP.out]
        unfold FreshCardB
        dsimp only
        rw [HFL.out]
        exact ⟨_, c1, rfl, own_up hown upr (by first | exact Nat.le_refl _ | (simp; done) | omega | (simp; omega) | exact (‹_ ∧ _ ∧ Below _ _ _›).2.2.size), bel⟩
set_option maxHeartbeats 400000 in
theorem i_TakeBox (d f : Int) (B : Nat) (A : Option Addr) (n c : Nat) (ss : List ByteArray) (F L T : Int) (w : World) (hS : Strs w B A n ss) (hB : B ≤ w.heap.size) :
    Calls Tryz.prog 169 #[.agg #[.int .i64 d, .int .i64 f, .slice A n c], .agg #[.int .i64 F, .int .i64 L, .int .i64 T]] w (FreshCardB w.heap.size d f (boxRes 102 d f ss F L T).1 (boxRes 102 d f ss F L T).2 w) := by
  have hS2 := ((hS.alloc hB (.cells #[.int .i64 d, .int .i64 f, .slice A n c] 34)).alloc (by simp; omega) (.cells #[.int .i64 F, .int .i64 L, .int .i64 T] 63)).alloc (by simp; omega) (.cells #[.int .i64 0, .int .i64 0, .slice none 0 0] 34)
  go_enter Tryz.func169, Tryz.ntmps169
  go_wp2_with (go_at_call 190; refine (i_boxed_LowerAt _ _ B _ _ _ ss _ _ _ _ hS2 (by simp; omega)).mono ?_; rintro e w1 ⟨A1, c1, rfl, ho1, hb1⟩; obtain ⟨hcb, hfb⟩ := bcell hb1; have hz_w1_0 : w.heap.size < w1.heap.size := (by have hzz := hb1.size; (try simp at hzz); omega); have hy_w1_0 := Nat.le_of_lt hz_w1_0; have hz_w1_1 : w.heap.size + 1 < w1.heap.size := (by have hzz := hb1.size; (try simp at hzz); omega); have hy_w1_1 := Nat.le_of_lt hz_w1_1; have hz_w1_2 : w.heap.size + 1 + 1 < w1.heap.size := (by have hzz := hb1.size; (try simp at hzz); omega); have hy_w1_2 := Nat.le_of_lt hz_w1_2)
  refine bodyPost_ret (v := .tuple #[.agg #[.int .i64 d, .int .i64 f, .slice A1 _ c1], .bool _]) (by simp [results, Tryz.results169, go_sem, *]; exact ⟨rfl, rfl⟩) rfl ?_
  exact ⟨A1, c1, rfl, own_up ho1 upr (by first | exact Nat.le_refl _ | (simp; done) | omega | (simp; omega) | exact (‹_ ∧ _ ∧ Below _ _ _›).2.2.size), bel⟩
set_option maxHeartbeats 400000 in
theorem i_AddBox (d f : Int) (B : Nat) (A : Option Addr) (n c : Nat) (ss : List ByteArray) (F L T : Int) (w : World) (hS : Strs w B A n ss) (hB : B ≤ w.heap.size) :
    Calls Tryz.prog 168 #[.agg #[.int .i64 d, .int .i64 f, .slice A n c], .agg #[.int .i64 F, .int .i64 L, .int .i64 T]] w (FreshCardB w.heap.size d f (boxRes 100 d f ss F L T).1 (boxRes 100 d f ss F L T).2 w) := by
  have hS2 := ((hS.alloc hB (.cells #[.int .i64 d, .int .i64 f, .slice A n c] 34)).alloc (by simp; omega) (.cells #[.int .i64 F, .int .i64 L, .int .i64 T] 63)).alloc (by simp; omega) (.cells #[.int .i64 0, .int .i64 0, .slice none 0 0] 34)
  go_enter Tryz.func168, Tryz.ntmps168
  go_wp2_with (go_at_call 190; refine (i_boxed_RaiseAt _ _ B _ _ _ ss _ _ _ _ hS2 (by simp; omega)).mono ?_; rintro e w1 ⟨A1, c1, rfl, ho1, hb1⟩; obtain ⟨hcb, hfb⟩ := bcell hb1; have hz_w1_0 : w.heap.size < w1.heap.size := (by have hzz := hb1.size; (try simp at hzz); omega); have hy_w1_0 := Nat.le_of_lt hz_w1_0; have hz_w1_1 : w.heap.size + 1 < w1.heap.size := (by have hzz := hb1.size; (try simp at hzz); omega); have hy_w1_1 := Nat.le_of_lt hz_w1_1; have hz_w1_2 : w.heap.size + 1 + 1 < w1.heap.size := (by have hzz := hb1.size; (try simp at hzz); omega); have hy_w1_2 := Nat.le_of_lt hz_w1_2)
  refine bodyPost_ret (v := .tuple #[.agg #[.int .i64 d, .int .i64 f, .slice A1 _ c1], .bool _]) (by simp [results, Tryz.results168, go_sem, *]; exact ⟨rfl, rfl⟩) rfl ?_
  exact ⟨A1, c1, rfl, own_up ho1 upr (by first | exact Nat.le_refl _ | (simp; done) | omega | (simp; omega) | exact (‹_ ∧ _ ∧ Below _ _ _›).2.2.size), bel⟩
end Go.Proofs.YtdddglihomchfaaGreat
namespace Go.Proofs.YtdddglihomchfaaGreat
open Go.ChangeShapes Go.WideShapes Go.ChangeAt Go.RowKit
set_option linter.unusedVariables false
set_option maxRecDepth 10000
set_option maxHeartbeats 1600000 in
theorem s_TakeBox (d f : Int) (B : Nat) (A : Option Addr) (n c : Nat) (ss : List ByteArray) (F L T : Int) (w : World) (hS : Strs w B A n ss) (hB : B ≤ w.heap.size) :
    Calls Tryz.prog 162 #[.agg #[.int .i64 d, .int .i64 f, .slice A n c], .agg #[.int .i64 F, .int .i64 L, .int .i64 T]] w (FreshCardB w.heap.size d f (boxRes 102 d f ss F L T).1 (boxRes 102 d f ss F L T).2 w) := by
  have hn := hS.nb
  have hl := hS.len
  have hS2 := ((hS.alloc hB (.cells #[.int .i64 d, .int .i64 f, .slice A n c] 34)).alloc (by simp; omega) (.cells #[.int .i64 F, .int .i64 L, .int .i64 T] 63)).alloc (by simp; omega) (.cells #[.int .i64 0, .int .i64 0, .slice none 0 0] 34)
  have HL := Lib.hid hl
  cases hh : boxOk d f ss n F L
  · have HP := Lib.hid (boxRes_no (c := 102) (at_ := T) (show boxOk d f ss ss.length F L = false by rw [hl]; exact hh))
    clear hl
    go_enter Tryz.func162, Tryz.ntmps162
    go_wp2_with (first | (go_at_call 77; refine (s_l05Copy _ _ B _ _ _ ss _ hS2 (by simp; omega)).mono ?_; rintro e w1 ⟨A1, c1, rfl, ho1, hb1⟩; obtain ⟨hcb, hfb⟩ := bcell hb1; have hz_w1_0 : w.heap.size < w1.heap.size := (by have hzz := hb1.size; (try simp at hzz); omega); have hy_w1_0 := Nat.le_of_lt hz_w1_0; have hz_w1_1 : w.heap.size + 1 < w1.heap.size := (by have hzz := hb1.size; (try simp at hzz); omega); have hy_w1_1 := Nat.le_of_lt hz_w1_1; have hz_w1_2 : w.heap.size + 1 + 1 < w1.heap.size := (by have hzz := hb1.size; (try simp at hzz); omega); have hy_w1_2 := Nat.le_of_lt hz_w1_2; have hS3 := hS2.below (hb1.mono (by simp; omega))) | (go_at_call 186; refine (s_l11Range _ _ B _ _ _ ss _ _ _ _ (hS3.alloc (by omega) _) (by simp; omega)).mono ?_; rw [hh]; rintro e w2 ⟨rfl, hb2⟩; obtain ⟨hcb2, hfb2⟩ := bcell hb2; have hz_w2_0 : w.heap.size < w2.heap.size := (by have hzz := hb2.size; (try simp at hzz); omega); have hy_w2_0 := Nat.le_of_lt hz_w2_0; have hz_w2_1 : w.heap.size + 1 < w2.heap.size := (by have hzz := hb2.size; (try simp at hzz); omega); have hy_w2_1 := Nat.le_of_lt hz_w2_1; have hz_w2_2 : w.heap.size + 1 + 1 < w2.heap.size := (by have hzz := hb2.size; (try simp at hzz); omega); have hy_w2_2 := Nat.le_of_lt hz_w2_2; (have hw1 : w1.heap.size < w2.heap.size := (by have hq := hb2.size; simp at hq; omega))))
    refine bodyPost_ret (v := .tuple #[.agg #[.int .i64 d, .int .i64 f, .slice A1 ss.length c1], .bool false]) (by simp [results, Tryz.results162, go_sem, *]) rfl ?_
    rw [HP.out]
    exact ⟨A1, c1, rfl, own_up ho1 upr (by first | exact Nat.le_refl _ | (simp; done) | omega | (simp; omega) | exact (‹_ ∧ _ ∧ Below _ _ _›).2.2.size), bel⟩
  · obtain ⟨hF0, hFL, hLn⟩ := boxOk_iff hh
    obtain ⟨F, rfl⟩ := Int.eq_ofNat_of_zero_le hF0
    obtain ⟨L, rfl⟩ := Int.eq_ofNat_of_zero_le (show 0 ≤ L by omega)
    have hFL' : F ≤ L := by omega
    have hLn' : L < n := by omega
    have HH := Lib.hid (show boxOk d f ss ss.length F L = true by rw [hl]; exact hh)
    clear hl hF0 hFL hLn
    go_enter Tryz.func162, Tryz.ntmps162
    go_wp2_with (first | (go_at_call 77; refine (s_l05Copy _ _ B _ _ _ ss _ hS2 (by simp; omega)).mono ?_; rintro e w1 ⟨A1, c1, rfl, ho1, hb1⟩; obtain ⟨hcb, hfb⟩ := bcell hb1; have hz_w1_0 : w.heap.size < w1.heap.size := (by have hzz := hb1.size; (try simp at hzz); omega); have hy_w1_0 := Nat.le_of_lt hz_w1_0; have hz_w1_1 : w.heap.size + 1 < w1.heap.size := (by have hzz := hb1.size; (try simp at hzz); omega); have hy_w1_1 := Nat.le_of_lt hz_w1_1; have hz_w1_2 : w.heap.size + 1 + 1 < w1.heap.size := (by have hzz := hb1.size; (try simp at hzz); omega); have hy_w1_2 := Nat.le_of_lt hz_w1_2; have hS3 := hS2.below (hb1.mono (by simp; omega)); (have hnl : 0 < ss.length := (by have := HL.out; omega)); obtain ⟨g, cap, hv, hbg, hglt⟩ := ho1.form hnl; (have hA : A1 = some ⟨g, 0, none⟩ := (by injection hv)); subst hA; clear hv) | (go_at_call 186; refine (s_l11Range _ _ B _ _ _ ss _ _ _ _ (hS3.alloc (by omega) _) (by simp; omega)).mono ?_; rw [hh]; rintro e w2 ⟨rfl, hb2⟩; obtain ⟨hcb2, hfb2⟩ := bcell hb2; have hz_w2_0 : w.heap.size < w2.heap.size := (by have hzz := hb2.size; (try simp at hzz); omega); have hy_w2_0 := Nat.le_of_lt hz_w2_0; have hz_w2_1 : w.heap.size + 1 < w2.heap.size := (by have hzz := hb2.size; (try simp at hzz); omega); have hy_w2_1 := Nat.le_of_lt hz_w2_1; have hz_w2_2 : w.heap.size + 1 + 1 < w2.heap.size := (by have hzz := hb2.size; (try simp at hzz); omega); have hy_w2_2 := Nat.le_of_lt hz_w2_2; (have hw1 : w1.heap.size < w2.heap.size := (by have hq := hb2.size; simp at hq; omega))))
    have hbg' : w.heap.size + 3 ≤ g := by simp at hbg; omega
    have ho2 := own_below (ho1.alloc (.cells #[.int .i64 d, .int .i64 f, .slice (some ⟨g, 0, none⟩) ss.length c1] 34)) hb2
    have hko : w2.heap[w1.heap.size]? = some (.cells #[.int .i64 d, .int .i64 f, .slice (some ⟨g, 0, none⟩) ss.length c1] 34) := blk_next (blk_new w1 (.cells #[.int .i64 d, .int .i64 f, .slice (some ⟨g, 0, none⟩) ss.length c1] 34)) hb2
    have hb3 : Below w.heap.size w w2 := bel
    have hS5 : Strs w2 B (A) n ss := (hS3.alloc (by omega) (.cells #[.int .i64 d, .int .i64 f, .slice (some ⟨g, 0, none⟩) ss.length c1] 34)).below (hb2.mono (by simp; omega))
    have hwg : w.heap.size ≤ g := by omega
    have hBg : B ≤ g := by omega
    have hge_g : w.heap.size + 3 ≤ g := (by have hzz := hbg'; (try simp at hzz); omega); have hne_g_0 : g ≠ w.heap.size := (by have hzz := hbg'; (try simp at hzz); omega); have hne2_g_0 := Ne.symm hne_g_0; have hne_g_1 : g ≠ w.heap.size + 1 := (by have hzz := hbg'; (try simp at hzz); omega); have hne2_g_1 := Ne.symm hne_g_1; have hne_g_2 : g ≠ w.heap.size + 1 + 1 := (by have hzz := hbg'; (try simp at hzz); omega); have hne2_g_2 := Ne.symm hne_g_2
    go_loopw [7] (fun kk wr => ∃ K : Nat, F ≤ K ∧ K ≤ L + 1 ∧ kk = .int .i64 K ∧ Hid (allC 102 T ss F (K - F) = true) ∧ wr.ownsRow (w.heap.size + 1 + 1 + 1) 9 1 (.slice (some ⟨g, 0, none⟩) ss.length c1) ss.length ((flips T ss F (K - F)).map Value.string) ∧ w2.grownBy wr (some g)) (fun kk _ => L + 1 - (intOf kk).toNat)
    case atStart => exact ⟨F, Nat.le_refl _, by omega, rfl, by rw [Nat.sub_self]; exact allC_zero _ _ _ _, by rw [Nat.sub_self, flips_zero]; first | exact ho2 | exact own_up ho2 (Upper.refl _ _) (by simp), World.grownBy.refl _ _⟩
    case round =>
      obtain ⟨K, hFK, hKL, rfl, HA, hown, hg⟩ := hrel
      have hbr : Below w.heap.size w wr := only_below_B hb3 hg hwg
      have hSr := hS5.grown hg hBg (by omega)
      have hzr : w2.heap.size ≤ wr.heap.size := hg.size
      obtain ⟨hx0, hx1, hx2, hxl⟩ := blk3 ((hg.block w1.heap.size hw1 (by intro e; injection e; omega)).trans hko)
      have hcb3 := (gcell hg).1
      have hfb3 := (gcell hg).2
      have hz0 : w.heap.size < wr.heap.size := by omega
      have hz1 : w.heap.size + 1 < wr.heap.size := by omega
      have hz2 : w.heap.size + 1 + 1 < wr.heap.size := by omega
      have hgr : g < wr.heap.size := by omega
      by_cases hlt : K ≤ L
      · obtain ⟨hKs, ad, hAad, hab, hx, hsz⟩ := hSr.at_ (k := K) (by omega)
        subst hAad
        have hKn : K < n := by omega
        have hKl : K < ss.length := hKs
        have hq : ∀ W : World, Calls Tryz.prog 187 #[.string ss[K], .int .i64 T] W fun e w' => e = .returned (.bool (cornerB 102 ss[K] T)) ∧ ∃ m, w' = W.drewN m := fun W => s_IsMountain _ _ W hsz
        cases hcc : cornerB 102 ss[K] T
        · rw [hcc] at hq
          have HQ := hide hq
          clear hq
          have HP := Lib.hid (boxRes_stop (d := d) (f := f) (L := L) (allC_stopK (m := L + 1) hFK hKs (by omega) hcc))
          clear hcc
          go_wp2
          go_quiet ((go_at_call 187; first | exact quiet_ex (unhide HQ _) | exact quiet_add (unhide HQ _)))
          go_wp2_with (go_at_call 77; refine (s_l05Copy _ _ B _ _ _ ss _ (hSr.drewN _) (by simp; omega)).mono ?_; rintro e w4 ⟨A4, c4, rfl, ho4, hb4'⟩; (have hb4 : Below wr.heap.size wr w4 := ⟨hb4'.os, hb4'.tape, hb4'.output, hb4'.size, hb4'.block⟩); clear hb4'; obtain ⟨hcb4, hfb4⟩ := bcell hb4; have hz_w4_0 : w.heap.size < w4.heap.size := (by have hzz := hb4.size; (try simp at hzz); omega); have hy_w4_0 := Nat.le_of_lt hz_w4_0; have hz_w4_1 : w.heap.size + 1 < w4.heap.size := (by have hzz := hb4.size; (try simp at hzz); omega); have hy_w4_1 := Nat.le_of_lt hz_w4_1; have hz_w4_2 : w.heap.size + 1 + 1 < w4.heap.size := (by have hzz := hb4.size; (try simp at hzz); omega); have hy_w4_2 := Nat.le_of_lt hz_w4_2)
          refine bodyPost_ret (v := .tuple #[.agg #[.int .i64 d, .int .i64 f, .slice A4 ss.length c4], .bool false]) (by simp [results, Tryz.results162, go_sem, *]) rfl ?_
          rw [HP.out]
          exact ⟨A4, c4, rfl, own_up ho4 upr (by first | exact Nat.le_refl _ | (simp; done) | omega | (simp; omega) | exact (‹_ ∧ _ ∧ Below _ _ _›).2.2.size), bel⟩
        · rw [hcc] at hq
          have HQ := hide hq
          clear hq
          obtain ⟨L2, K2, hT, hKL2, hL2⟩ := cornerB_pos hcc
          have hq2 : ∀ W : World, Calls Tryz.prog 185 #[.string ss[K], .int .i64 T] W fun e w' => e = .returned (.string (swapB ss[K] T)) ∧ ∃ m, w' = W.drewN m := fun W => by rw [hT]; exact s_l10Swap _ L2 K2 W hsz hKL2 hL2
          have HQ2 := hide hq2
          clear hq2 hT hKL2 hL2
          have HA2 := Lib.hid (allC_stepK hFK hKs HA.out hcc)
          have HFS := Lib.hid (flips_stepK T ss F K hFK hKs)
          clear hcc
          obtain ⟨u1, hc1⟩ := own_cell hown (j := K) hKl
          have hf1 := hown.frozenAt K
          go_wp2
          go_quiet ((go_at_call 187; first | exact quiet_ex (unhide HQ _) | exact quiet_add (unhide HQ _)))
          go_wp2
          go_region_with (first | (go_at_call 185; refine (unhide HQ2 _).mono ?_; rintro e w' ⟨rfl, m, rfl⟩))
          all_goals (
            go_wp2
            go_roundw
            case rel =>
              have hst := hown.stored K (.string (swapB ss[K] T))
              have ho5 := hst.1
              rw [set_map, HFS.out] at ho5
              have hg5 := only_trans hg hst.2
              exact ⟨K + 1, by omega, by omega, by go_num, HA2.out, by first | exact ho5 | exact ho5.drewN _, by first | exact hg5 | exact only_drewN hg5 _⟩
            case measure => simp [intOf]; omega)
      · have hKe : K = L + 1 := by omega
        subst hKe
        have HP := Lib.hid (boxRes_yes HH.out HA.out)
        have HFL := Lib.hid (flips_len T ss F (L + 1 - F))
        go_wp2
        refine bodyPost_ret (v := .tuple #[.agg #[.int .i64 d, .int .i64 f, .slice (some ⟨g, 0, none⟩) ss.length c1], .bool true]) (by simp [results, Tryz.results162, go_sem, *]) rfl ?_
        rw [HP.out]
        unfold FreshCardB
        dsimp only
        rw [HFL.out]
        exact ⟨_, c1, rfl, own_up hown upr (by first | exact Nat.le_refl _ | (simp; done) | omega | (simp; omega) | exact (‹_ ∧ _ ∧ Below _ _ _›).2.2.size), bel⟩
end Go.Proofs.YtdddglihomchfaaGreat
namespace Go.Proofs.YtdddglihomchfaaGreat
open Go.ChangeShapes Go.WideShapes Go.ChangeAt Go.RowKit
set_option linter.unusedVariables false
set_option maxRecDepth 10000
theorem allC_mem {c : UInt8} {at_ : Int} {ss : List ByteArray} {F j i : Nat} (h : allC c at_ ss F j = true) (hi : i < ss.length) (h1 : F ≤ i) (h2 : i < F + j) : cornerB c ss[i] at_ = true := by
  unfold allC at h
  rw [List.all_eq_true] at h
  refine h _ ?_
  rw [List.mem_take_iff_getElem]
  exact ⟨i - F, by rw [List.length_drop]; omega, by simp [show F + (i - F) = i by omega]⟩
theorem flips_size {c : UInt8} {at_ : Int} {ss : List ByteArray} {F j : Nat} (hs : ∀ s ∈ ss, s.size ≤ 16777216) (h : allC c at_ ss F j = true) : ∀ x ∈ flips at_ ss F j, x.size ≤ 16777216 := by
  intro x hx
  obtain ⟨i, hi, rfl⟩ := List.mem_iff_getElem.1 hx
  have hi' : i < ss.length := by rw [flips_len] at hi; exact hi
  have he : (flips at_ ss F j)[i] = if F ≤ i ∧ i < F + j then swapB ss[i] at_ else ss[i] := by simp [flips]
  rw [he]
  split
  · rename_i hc
    rw [swapB_size (hs _ (List.getElem_mem hi')) (allC_mem h hi' hc.1 hc.2)]
    exact hs _ (List.getElem_mem hi')
  · exact hs _ (List.getElem_mem hi')
def canAdd (d f : Int) (ss : List ByteArray) (F L T : Int) : Bool := boxOk d f ss ss.length F L && allC 100 T ss F.toNat (L.toNat + 1 - F.toNat)
theorem canAdd_no {d f : Int} {ss : List ByteArray} {F L T : Int} (h : canAdd d f ss F L T = false) : boxRes 100 d f ss F L T = (ss, false) := by
  unfold boxRes; rw [if_neg]; intro hh; unfold canAdd at h; rw [hh.1, hh.2] at h; cases h
theorem canAdd_yes {d f : Int} {ss : List ByteArray} {F L T : Int} (h : canAdd d f ss F L T = true) : boxOk d f ss ss.length F L = true ∧ allC 100 T ss F.toNat (L.toNat + 1 - F.toNat) = true := by
  unfold canAdd at h; simpa using h
set_option maxHeartbeats 1600000 in
theorem s_CanAdd (d f : Int) (B : Nat) (A : Option Addr) (n c : Nat) (ss : List ByteArray) (F L T : Int) (w : World) (hS : Strs w B A n ss) (hB : B ≤ w.heap.size) :
    Calls Tryz.prog 184 #[.agg #[.int .i64 d, .int .i64 f, .slice A n c], .agg #[.int .i64 F, .int .i64 L, .int .i64 T]] w fun e w' => e = .returned (.bool (canAdd d f ss F L T)) ∧ Below w.heap.size w w' := by
  have hn := hS.nb
  have hl := hS.len
  have hS2 := ((hS.alloc hB (.cells #[.int .i64 d, .int .i64 f, .slice A n c] 34)).alloc (by simp; omega) (.cells #[.int .i64 F, .int .i64 L, .int .i64 T] 63))
  have HL := Lib.hid hl
  cases hh : boxOk d f ss n F L
  · have HP := Lib.hid (show canAdd d f ss F L T = false by unfold canAdd; rw [hl, hh]; rfl)
    clear hl
    go_enter Tryz.func184, Tryz.ntmps184
    go_wp2_with (first | (go_at_call 186; refine (s_l11Range _ _ B _ _ _ ss _ _ _ _ hS2 (by simp; omega)).mono ?_; rw [hh]; rintro e w2 ⟨rfl, hb2⟩; obtain ⟨hcb2, hfb2⟩ := bcell hb2; have hz_w2_0 : w.heap.size < w2.heap.size := (by have hzz := hb2.size; (try simp at hzz); omega); have hy_w2_0 := Nat.le_of_lt hz_w2_0; have hz_w2_1 : w.heap.size + 1 < w2.heap.size := (by have hzz := hb2.size; (try simp at hzz); omega); have hy_w2_1 := Nat.le_of_lt hz_w2_1))
    go_ret
    exact ⟨ret_bool HP.out.symm, bel⟩
  · obtain ⟨hF0, hFL, hLn⟩ := boxOk_iff hh
    obtain ⟨F, rfl⟩ := Int.eq_ofNat_of_zero_le hF0
    obtain ⟨L, rfl⟩ := Int.eq_ofNat_of_zero_le (show 0 ≤ L by omega)
    have hFL' : F ≤ L := by omega
    have hLn' : L < n := by omega
    have HH := Lib.hid (show boxOk d f ss ss.length F L = true by rw [hl]; exact hh)
    clear hl hF0 hFL hLn
    go_enter Tryz.func184, Tryz.ntmps184
    go_wp2_with (first | (go_at_call 186; refine (s_l11Range _ _ B _ _ _ ss _ _ _ _ hS2 (by simp; omega)).mono ?_; rw [hh]; rintro e w2 ⟨rfl, hb2⟩; obtain ⟨hcb2, hfb2⟩ := bcell hb2; have hz_w2_0 : w.heap.size < w2.heap.size := (by have hzz := hb2.size; (try simp at hzz); omega); have hy_w2_0 := Nat.le_of_lt hz_w2_0; have hz_w2_1 : w.heap.size + 1 < w2.heap.size := (by have hzz := hb2.size; (try simp at hzz); omega); have hy_w2_1 := Nat.le_of_lt hz_w2_1))
    have hS5 : Strs w2 B A n ss := hS2.below (hb2.mono (by simp; omega))
    have hb3 : Below w.heap.size w w2 := bel
    have hBw : B ≤ w2.heap.size := by omega
    go_loopw [5] (fun kk wr => ∃ K m : Nat, F ≤ K ∧ K ≤ L + 1 ∧ kk = .int .i64 K ∧ Hid (allC 100 T ss F (K - F) = true) ∧ wr = w2.drewN m) (fun kk _ => L + 1 - (intOf kk).toNat)
    case atStart => exact ⟨F, 0, Nat.le_refl _, by omega, rfl, by rw [Nat.sub_self]; exact allC_zero _ _ _ _, rfl⟩
    case round =>
      obtain ⟨K, m, hFK, hKL, rfl, HA, rfl⟩ := hrel
      by_cases hlt : K ≤ L
      · obtain ⟨hKs, ad, hAad, hab, hx, hsz⟩ := hS5.at_ (k := K) (by omega)
        subst hAad
        have hKn : K < n := by omega
        have hq : ∀ W : World, Calls Tryz.prog 197 #[.string ss[K], .int .i64 T] W fun e w' => e = .returned (.bool (cornerB 100 ss[K] T)) ∧ ∃ m, w' = W.drewN m := fun W => s_IsValley _ _ W hsz
        cases hcc : cornerB 100 ss[K] T
        · rw [hcc] at hq
          have HQ := hide hq
          clear hq
          have HP := Lib.hid (show canAdd d f ss F L T = false by unfold canAdd; simp only [Int.toNat_natCast]; rw [allC_stopK (m := L + 1) hFK hKs (by omega) hcc]; simp)
          clear hcc
          go_wp2
          go_quiet ((go_at_call 197; first | exact quiet_ex (unhide HQ _) | exact quiet_add (unhide HQ _)))
          go_wp2
          go_ret
          exact ⟨ret_bool HP.out.symm, bel⟩
        · rw [hcc] at hq
          have HQ := hide hq
          clear hq
          have HA2 := Lib.hid (allC_stepK hFK hKs HA.out hcc)
          clear hcc
          go_wp2
          go_quiet ((go_at_call 197; first | exact quiet_ex (unhide HQ _) | exact quiet_add (unhide HQ _)))
          go_wp2
          go_roundw
          case rel => exact ⟨K + 1, _, by omega, by omega, by go_num, HA2.out, by first | rfl | exact World.drewN_drewN _ _ _⟩
          case measure => simp [intOf]; omega
      · have hKe : K = L + 1 := by omega
        subst hKe
        have HP := Lib.hid (show canAdd d f ss F L T = true by unfold canAdd; simp only [Int.toNat_natCast]; rw [HH.out, HA.out]; rfl)
        go_wp2
        go_ret
        exact ⟨ret_bool HP.out.symm, bel⟩
set_option maxHeartbeats 1600000 in
theorem s_AddBox (d f : Int) (B : Nat) (A : Option Addr) (n c : Nat) (ss : List ByteArray) (F L T : Int) (w : World) (hS : Strs w B A n ss) (hB : B ≤ w.heap.size) :
    Calls Tryz.prog 161 #[.agg #[.int .i64 d, .int .i64 f, .slice A n c], .agg #[.int .i64 F, .int .i64 L, .int .i64 T]] w (FreshCardB w.heap.size d f (boxRes 100 d f ss F L T).1 (boxRes 100 d f ss F L T).2 w) := by
  have hn := hS.nb
  have hl := hS.len
  have hS2 := ((hS.alloc hB (.cells #[.int .i64 d, .int .i64 f, .slice A n c] 34)).alloc (by simp; omega) (.cells #[.int .i64 F, .int .i64 L, .int .i64 T] 63)).alloc (by simp; omega) (.cells #[.int .i64 0, .int .i64 0, .slice none 0 0] 34)
  have HL := Lib.hid hl
  cases hh : canAdd d f ss F L T
  · have HP := Lib.hid (canAdd_no hh)
    clear hl
    go_enter Tryz.func161, Tryz.ntmps161
    go_wp2_with (first | (go_at_call 77; refine (s_l05Copy _ _ B _ _ _ ss _ hS2 (by simp; omega)).mono ?_; rintro e w1 ⟨A1, c1, rfl, ho1, hb1⟩; obtain ⟨hcb, hfb⟩ := bcell hb1; have hz_w1_0 : w.heap.size < w1.heap.size := (by have hzz := hb1.size; (try simp at hzz); omega); have hy_w1_0 := Nat.le_of_lt hz_w1_0; have hz_w1_1 : w.heap.size + 1 < w1.heap.size := (by have hzz := hb1.size; (try simp at hzz); omega); have hy_w1_1 := Nat.le_of_lt hz_w1_1; have hz_w1_2 : w.heap.size + 1 + 1 < w1.heap.size := (by have hzz := hb1.size; (try simp at hzz); omega); have hy_w1_2 := Nat.le_of_lt hz_w1_2; have hS3 := hS2.below (hb1.mono (by simp; omega))) | (go_at_call 184; refine (s_CanAdd _ _ B _ _ _ ss _ _ _ _ (hS3.alloc (by omega) _) (by simp; omega)).mono ?_; rw [hh]; rintro e w2 ⟨rfl, hb2⟩; obtain ⟨hcb2, hfb2⟩ := bcell hb2; have hz_w2_0 : w.heap.size < w2.heap.size := (by have hzz := hb2.size; (try simp at hzz); omega); have hy_w2_0 := Nat.le_of_lt hz_w2_0; have hz_w2_1 : w.heap.size + 1 < w2.heap.size := (by have hzz := hb2.size; (try simp at hzz); omega); have hy_w2_1 := Nat.le_of_lt hz_w2_1; have hz_w2_2 : w.heap.size + 1 + 1 < w2.heap.size := (by have hzz := hb2.size; (try simp at hzz); omega); have hy_w2_2 := Nat.le_of_lt hz_w2_2; (have hw1 : w1.heap.size < w2.heap.size := (by have hq := hb2.size; simp at hq; omega))))
    refine bodyPost_ret (v := .tuple #[.agg #[.int .i64 d, .int .i64 f, .slice A1 ss.length c1], .bool false]) (by simp [results, Tryz.results161, go_sem, *]) rfl ?_
    rw [HP.out]
    exact ⟨A1, c1, rfl, own_up ho1 upr (by first | exact Nat.le_refl _ | (simp; done) | omega | (simp; omega) | exact (‹_ ∧ _ ∧ Below _ _ _›).2.2.size), bel⟩
  · obtain ⟨hbo, hall⟩ := canAdd_yes hh
    obtain ⟨hF0, hFL, hLn⟩ := boxOk_iff hbo
    obtain ⟨F, rfl⟩ := Int.eq_ofNat_of_zero_le hF0
    obtain ⟨L, rfl⟩ := Int.eq_ofNat_of_zero_le (show 0 ≤ L by omega)
    simp only [Int.toNat_natCast] at hall
    have hFL' : F ≤ L := by omega
    have hLn' : L < n := by omega
    have HH := Lib.hid hbo
    have HALL := Lib.hid hall
    clear hl hF0 hFL hLn hbo hall
    go_enter Tryz.func161, Tryz.ntmps161
    go_wp2_with (first | (go_at_call 77; refine (s_l05Copy _ _ B _ _ _ ss _ hS2 (by simp; omega)).mono ?_; rintro e w1 ⟨A1, c1, rfl, ho1, hb1⟩; obtain ⟨hcb, hfb⟩ := bcell hb1; have hz_w1_0 : w.heap.size < w1.heap.size := (by have hzz := hb1.size; (try simp at hzz); omega); have hy_w1_0 := Nat.le_of_lt hz_w1_0; have hz_w1_1 : w.heap.size + 1 < w1.heap.size := (by have hzz := hb1.size; (try simp at hzz); omega); have hy_w1_1 := Nat.le_of_lt hz_w1_1; have hz_w1_2 : w.heap.size + 1 + 1 < w1.heap.size := (by have hzz := hb1.size; (try simp at hzz); omega); have hy_w1_2 := Nat.le_of_lt hz_w1_2; have hS3 := hS2.below (hb1.mono (by simp; omega)); (have hnl : 0 < ss.length := (by have := HL.out; omega)); obtain ⟨g, cap, hv, hbg, hglt⟩ := ho1.form hnl; (have hA : A1 = some ⟨g, 0, none⟩ := (by injection hv)); subst hA; clear hv) | (go_at_call 184; refine (s_CanAdd _ _ B _ _ _ ss _ _ _ _ (hS3.alloc (by omega) _) (by simp; omega)).mono ?_; rw [hh]; rintro e w2 ⟨rfl, hb2⟩; obtain ⟨hcb2, hfb2⟩ := bcell hb2; have hz_w2_0 : w.heap.size < w2.heap.size := (by have hzz := hb2.size; (try simp at hzz); omega); have hy_w2_0 := Nat.le_of_lt hz_w2_0; have hz_w2_1 : w.heap.size + 1 < w2.heap.size := (by have hzz := hb2.size; (try simp at hzz); omega); have hy_w2_1 := Nat.le_of_lt hz_w2_1; have hz_w2_2 : w.heap.size + 1 + 1 < w2.heap.size := (by have hzz := hb2.size; (try simp at hzz); omega); have hy_w2_2 := Nat.le_of_lt hz_w2_2; (have hw1 : w1.heap.size < w2.heap.size := (by have hq := hb2.size; simp at hq; omega))))
    have hbg' : w.heap.size + 3 ≤ g := by simp at hbg; omega
    have ho2 := own_below (ho1.alloc (.cells #[.int .i64 d, .int .i64 f, .slice (some ⟨g, 0, none⟩) ss.length c1] 34)) hb2
    have hko : w2.heap[w1.heap.size]? = some (.cells #[.int .i64 d, .int .i64 f, .slice (some ⟨g, 0, none⟩) ss.length c1] 34) := blk_next (blk_new w1 (.cells #[.int .i64 d, .int .i64 f, .slice (some ⟨g, 0, none⟩) ss.length c1] 34)) hb2
    have hb3 : Below w.heap.size w w2 := bel
    have hS5 : Strs w2 B (A) n ss := (hS3.alloc (by omega) (.cells #[.int .i64 d, .int .i64 f, .slice (some ⟨g, 0, none⟩) ss.length c1] 34)).below (hb2.mono (by simp; omega))
    have hwg : w.heap.size ≤ g := by omega
    have hBg : B ≤ g := by omega
    have hge_g : w.heap.size + 3 ≤ g := (by have hzz := hbg'; (try simp at hzz); omega); have hne_g_0 : g ≠ w.heap.size := (by have hzz := hbg'; (try simp at hzz); omega); have hne2_g_0 := Ne.symm hne_g_0; have hne_g_1 : g ≠ w.heap.size + 1 := (by have hzz := hbg'; (try simp at hzz); omega); have hne2_g_1 := Ne.symm hne_g_1; have hne_g_2 : g ≠ w.heap.size + 1 + 1 := (by have hzz := hbg'; (try simp at hzz); omega); have hne2_g_2 := Ne.symm hne_g_2
    go_loopw [7] (fun kk wr => ∃ K : Nat, F ≤ K ∧ K ≤ L + 1 ∧ kk = .int .i64 K ∧ wr.ownsRow (w.heap.size + 1 + 1 + 1) 9 1 (.slice (some ⟨g, 0, none⟩) ss.length c1) ss.length ((flips T ss F (K - F)).map Value.string) ∧ w2.grownBy wr (some g)) (fun kk _ => L + 1 - (intOf kk).toNat)
    case atStart => exact ⟨F, Nat.le_refl _, by omega, rfl, by rw [Nat.sub_self, flips_zero]; first | exact ho2 | exact own_up ho2 (Upper.refl _ _) (by simp), World.grownBy.refl _ _⟩
    case round =>
      obtain ⟨K, hFK, hKL, rfl, hown, hg⟩ := hrel
      have hbr : Below w.heap.size w wr := only_below_B hb3 hg hwg
      have hSr := hS5.grown hg hBg (by omega)
      have hzr : w2.heap.size ≤ wr.heap.size := hg.size
      obtain ⟨hx0, hx1, hx2, hxl⟩ := blk3 ((hg.block w1.heap.size hw1 (by intro e; injection e; omega)).trans hko)
      have hcb3 := (gcell hg).1
      have hfb3 := (gcell hg).2
      have hz0 : w.heap.size < wr.heap.size := by omega
      have hz1 : w.heap.size + 1 < wr.heap.size := by omega
      have hz2 : w.heap.size + 1 + 1 < wr.heap.size := by omega
      have hgr : g < wr.heap.size := by omega
      by_cases hlt : K ≤ L
      · obtain ⟨hKs, ad, hAad, hab, hx, hsz⟩ := hSr.at_ (k := K) (by omega)
        subst hAad
        have hKn : K < n := by omega
        have hKl : K < ss.length := hKs
        have hcc := allC_mem HALL.out hKs hFK (by omega)
        obtain ⟨L2, K2, hT, hKL2, hL2⟩ := cornerB_pos hcc
        have hq2 : ∀ W : World, Calls Tryz.prog 185 #[.string ss[K], .int .i64 T] W fun e w' => e = .returned (.string (swapB ss[K] T)) ∧ ∃ m, w' = W.drewN m := fun W => by rw [hT]; exact s_l10Swap _ L2 K2 W hsz hKL2 hL2
        have HQ2 := hide hq2
        clear hq2 hT hKL2 hL2
        have HFS := Lib.hid (flips_stepK T ss F K hFK hKs)
        clear hcc
        obtain ⟨u1, hc1⟩ := own_cell hown (j := K) hKl
        have hf1 := hown.frozenAt K
        go_wp2
        go_region_with (first | (go_at_call 185; refine (unhide HQ2 _).mono ?_; rintro e w' ⟨rfl, m, rfl⟩))
        all_goals (
          go_wp2
          go_roundw
          case rel =>
            have hst := hown.stored K (.string (swapB ss[K] T))
            have ho5 := hst.1
            rw [set_map, HFS.out] at ho5
            have hg5 := only_trans hg hst.2
            exact ⟨K + 1, by omega, by omega, by go_num, by first | exact ho5 | exact ho5.drewN _, by first | exact hg5 | exact only_drewN hg5 _⟩
          case measure => simp [intOf]; omega)
      · have hKe : K = L + 1 := by omega
        subst hKe
        have HP := Lib.hid (boxRes_yes HH.out HALL.out)
        have HFL := Lib.hid (flips_len T ss F (L + 1 - F))
        go_wp2
        refine bodyPost_ret (v := .tuple #[.agg #[.int .i64 d, .int .i64 f, .slice (some ⟨g, 0, none⟩) ss.length c1], .bool true]) (by simp [results, Tryz.results161, go_sem, *]) rfl ?_
        rw [HP.out]
        unfold FreshCardB
        dsimp only
        rw [HFL.out]
        exact ⟨_, c1, rfl, own_up hown upr (by first | exact Nat.le_refl _ | (simp; done) | omega | (simp; omega) | exact (‹_ ∧ _ ∧ Below _ _ _›).2.2.size), bel⟩
end Go.Proofs.YtdddglihomchfaaGreat
namespace Go.Proofs.YtdddglihomchfaaGreat
open Go.ChangeShapes Go.WideShapes Go.ChangeAt Go.RowKit
set_option linter.unusedVariables false
set_option maxRecDepth 10000
def exchRes (d f : Int) (ss : List ByteArray) (k : Int) (b a : ByteArray) : List ByteArray × Bool :=
  if (cardOk d f ss && inB k 0 ((ss.length : Int) - 1)) && decide (ss.getD k.toNat ByteArray.empty = b) then putAt d f ss k a else (ss, false)
def stepRes (on : Bool) (d f : Int) (ss : List ByteArray) (K F L T I : Int) (b a : ByteArray) : List ByteArray × Bool :=
  if plainStep K F L T I b a = false then (ss, false) else if K = 1 then boxRes (if on then 100 else 102) d f ss F L T else if K = 2 then boxRes (if on then 102 else 100) d f ss F L T
  else if on then exchRes d f ss I b a else exchRes d f ss I a b
theorem plain_iff {K F L T I : Int} {b a : ByteArray} (h : plainStep K F L T I b a = true) : K = 1 ∨ K = 2 ∨ K = 3 := by
  unfold plainStep at h
  split at h
  · omega
  · split at h
    · omega
    · cases h
theorem stepRes_no {on : Bool} {d f : Int} {ss : List ByteArray} {K F L T I : Int} {b a : ByteArray} (h : plainStep K F L T I b a = false) : stepRes on d f ss K F L T I b a = (ss, false) := by unfold stepRes; rw [if_pos h]
theorem exchRes_no {d f : Int} {ss : List ByteArray} {k : Int} {b a : ByteArray} (h : (cardOk d f ss && inB k 0 ((ss.length : Int) - 1)) = false) : exchRes d f ss k b a = (ss, false) := by unfold exchRes; rw [h]; rfl
theorem exchRes_ne {d f : Int} {ss : List ByteArray} {K : Nat} {b a : ByteArray} (hk : K < ss.length) (h : ss[K] ≠ b) : exchRes d f ss K b a = (ss, false) := by
  unfold exchRes
  have : decide (ss.getD (K : Int).toNat ByteArray.empty = b) = false := by
    simp only [Int.toNat_natCast, List.getD, List.getElem?_eq_getElem hk, Option.getD_some]
    simpa using h
  rw [this]; simp
theorem exchRes_eq {d f : Int} {ss : List ByteArray} {K : Nat} {b a : ByteArray} (hk : K < ss.length) (h0 : (cardOk d f ss && inB (K : Int) 0 ((ss.length : Int) - 1)) = true) (h : ss[K] = b) : exchRes d f ss K b a = putAt d f ss K a := by
  unfold exchRes
  have : decide (ss.getD (K : Int).toNat ByteArray.empty = b) = true := by
    simp only [Int.toNat_natCast, List.getD, List.getElem?_eq_getElem hk, Option.getD_some]
    simpa using h
  rw [h0, this]; simp
set_option maxHeartbeats 1600000 in
theorem i_exchange (d f : Int) (B : Nat) (A : Option Addr) (n c : Nat) (ss : List ByteArray) (k : Int) (b a : ByteArray) (w : World) (hS : Strs w B A n ss) (hB : B ≤ w.heap.size) (ha : a.size ≤ 16777216) :
    Calls Tryz.prog 170 #[.agg #[.int .i64 d, .int .i64 f, .slice A n c], .int .i64 k, .string b, .string a] w (FreshCardB w.heap.size d f (exchRes d f ss k b a).1 (exchRes d f ss k b a).2 w) := by
  have hn := hS.nb
  have hl := hS.len
  have hS2 := (hS.alloc hB (.cells #[.int .i64 d, .int .i64 f, .slice A n c] 34)).alloc (by simp; omega) (.cells #[.int .i64 0, .int .i64 0, .slice none 0 0] 34)
  have HL := Lib.hid hl
  cases hh : (cardOk d f ss && inB k 0 ((n : Int) - 1))
  · have HP := Lib.hid (exchRes_no (d := d) (f := f) (ss := ss) (k := k) (b := b) (a := a) (by rw [hl]; exact hh))
    clear hl
    go_enter Tryz.func170, Tryz.ntmps170
    go_wp2_with (first | (go_at_call 193; refine (i_hasStrip _ _ B _ _ _ ss _ _ hS2 (by simp; omega)).mono ?_; rw [hh]; rintro e w1 ⟨rfl, hb1⟩; obtain ⟨hcb, hfb⟩ := bcell hb1; have hz_w1_0 : w.heap.size < w1.heap.size := (by have hzz := hb1.size; (try simp at hzz); omega); have hy_w1_0 := Nat.le_of_lt hz_w1_0; have hz_w1_1 : w.heap.size + 1 < w1.heap.size := (by have hzz := hb1.size; (try simp at hzz); omega); have hy_w1_1 := Nat.le_of_lt hz_w1_1) | (go_at_call 79; refine (i_copied _ _ B _ _ _ ss _ (hS2.below (hb1.mono (by simp; omega))) (by first | omega | (simp; omega))).mono ?_; rintro e w3 ⟨A3, c3, rfl, ho3, hb3⟩; obtain ⟨hcb3, hfb3⟩ := bcell hb3; have hz_w3_0 : w.heap.size < w3.heap.size := (by have hzz := hb3.size; (try simp at hzz); omega); have hy_w3_0 := Nat.le_of_lt hz_w3_0; have hz_w3_1 : w.heap.size + 1 < w3.heap.size := (by have hzz := hb3.size; (try simp at hzz); omega); have hy_w3_1 := Nat.le_of_lt hz_w3_1))
    refine bodyPost_ret (v := .tuple #[.agg #[.int .i64 d, .int .i64 f, .slice A3 ss.length c3], .bool false]) (by simp [results, Tryz.results170, go_sem, *]) rfl ?_
    rw [HP.out]
    exact ⟨A3, c3, rfl, own_up ho3 upr (by first | exact Nat.le_refl _ | (simp; done) | omega | (simp; omega) | exact (‹_ ∧ _ ∧ Below _ _ _›).2.2.size), bel⟩
  · obtain ⟨hc0, hk⟩ : cardOk d f ss = true ∧ inB k 0 ((n : Int) - 1) = true := by simpa using hh
    obtain ⟨hk0, hk1⟩ := inB_iff.1 hk
    obtain ⟨k, rfl⟩ := Int.eq_ofNat_of_zero_le hk0
    have hkn : k < n := by omega
    obtain ⟨hkl, ad, rfl, hab, hcell, hsz⟩ := hS.at_ hkn
    have hadn0 : ad.block ≠ w.heap.size := by omega
    have hadl : ad.block < w.heap.size := by omega
    have hS4 := hS2.at_ hkn
    by_cases he : ss[k] = b
    · have HP := Lib.hid (exchRes_eq (d := d) (f := f) (b := b) (a := a) hkl (by rw [hl]; exact hh) he)
      have hbq := beq_toList_true he
      clear hl he hk0 hk1
      go_enter Tryz.func170, Tryz.ntmps170
      go_wp2_with (first | (go_at_call 193; refine (i_hasStrip _ _ B _ _ _ ss _ _ hS2 (by simp; omega)).mono ?_; rw [hh]; rintro e w1 ⟨rfl, hb1⟩; obtain ⟨hcb, hfb⟩ := bcell hb1; have hz_w1_0 : w.heap.size < w1.heap.size := (by have hzz := hb1.size; (try simp at hzz); omega); have hy_w1_0 := Nat.le_of_lt hz_w1_0; have hz_w1_1 : w.heap.size + 1 < w1.heap.size := (by have hzz := hb1.size; (try simp at hzz); omega); have hy_w1_1 := Nat.le_of_lt hz_w1_1; (have hck : w1.cell? (ad.add k) = some (.string ss[k]) := (by rw [hb1.cell (by rw [block_of_add]; simp; omega), World.cell?_alloc_lt _ _ _ (by rw [block_of_add]; simp; omega), World.cell?_alloc_lt _ _ _ (by rw [block_of_add]; omega)]; exact hcell))) | (go_at_call 194; refine (i_WithStrip _ _ B _ _ _ ss _ _ _ (hS2.below (hb1.mono (by simp; omega))) (by omega) ha).mono ?_; rintro e w3 ⟨A3, c3, rfl, ho3, hb3⟩; obtain ⟨hcb3, hfb3⟩ := bcell hb3; have hz_w3_0 : w.heap.size < w3.heap.size := (by have hzz := hb3.size; (try simp at hzz); omega); have hy_w3_0 := Nat.le_of_lt hz_w3_0; have hz_w3_1 : w.heap.size + 1 < w3.heap.size := (by have hzz := hb3.size; (try simp at hzz); omega); have hy_w3_1 := Nat.le_of_lt hz_w3_1))
      refine bodyPost_ret (v := .tuple #[.agg #[.int .i64 d, .int .i64 f, .slice A3 (putAt d f ss (k : Int) a).1.length c3], .bool (putAt d f ss (k : Int) a).2]) (by simp [results, Tryz.results170, go_sem, *]) rfl ?_
      rw [HP.out]
      exact ⟨A3, c3, rfl, own_up ho3 upr (by first | exact Nat.le_refl _ | (simp; done) | omega | (simp; omega) | exact (‹_ ∧ _ ∧ Below _ _ _›).2.2.size), bel⟩
    · have HP := Lib.hid (exchRes_ne (d := d) (f := f) (b := b) (a := a) hkl he)
      have hbq := beq_toList_false he
      clear hl he hk0 hk1
      go_enter Tryz.func170, Tryz.ntmps170
      go_wp2_with (first | (go_at_call 193; refine (i_hasStrip _ _ B _ _ _ ss _ _ hS2 (by simp; omega)).mono ?_; rw [hh]; rintro e w1 ⟨rfl, hb1⟩; obtain ⟨hcb, hfb⟩ := bcell hb1; have hz_w1_0 : w.heap.size < w1.heap.size := (by have hzz := hb1.size; (try simp at hzz); omega); have hy_w1_0 := Nat.le_of_lt hz_w1_0; have hz_w1_1 : w.heap.size + 1 < w1.heap.size := (by have hzz := hb1.size; (try simp at hzz); omega); have hy_w1_1 := Nat.le_of_lt hz_w1_1; (have hck : w1.cell? (ad.add k) = some (.string ss[k]) := (by rw [hb1.cell (by rw [block_of_add]; simp; omega), World.cell?_alloc_lt _ _ _ (by rw [block_of_add]; simp; omega), World.cell?_alloc_lt _ _ _ (by rw [block_of_add]; omega)]; exact hcell))) | (go_at_call 79; refine (i_copied _ _ B _ _ _ ss _ (hS2.below (hb1.mono (by simp; omega))) (by first | omega | (simp; omega))).mono ?_; rintro e w3 ⟨A3, c3, rfl, ho3, hb3⟩; obtain ⟨hcb3, hfb3⟩ := bcell hb3; have hz_w3_0 : w.heap.size < w3.heap.size := (by have hzz := hb3.size; (try simp at hzz); omega); have hy_w3_0 := Nat.le_of_lt hz_w3_0; have hz_w3_1 : w.heap.size + 1 < w3.heap.size := (by have hzz := hb3.size; (try simp at hzz); omega); have hy_w3_1 := Nat.le_of_lt hz_w3_1))
      refine bodyPost_ret (v := .tuple #[.agg #[.int .i64 d, .int .i64 f, .slice A3 ss.length c3], .bool false]) (by simp [results, Tryz.results170, go_sem, *]) rfl ?_
      rw [HP.out]
      exact ⟨A3, c3, rfl, own_up ho3 upr (by first | exact Nat.le_refl _ | (simp; done) | omega | (simp; omega) | exact (‹_ ∧ _ ∧ Below _ _ _›).2.2.size), bel⟩
set_option maxHeartbeats 1600000 in
theorem s_l37Replace (d f : Int) (B : Nat) (A : Option Addr) (n c : Nat) (ss : List ByteArray) (k : Int) (b a : ByteArray) (w : World) (hS : Strs w B A n ss) (hB : B ≤ w.heap.size) (ha : a.size ≤ 16777216) :
    Calls Tryz.prog 163 #[.agg #[.int .i64 d, .int .i64 f, .slice A n c], .int .i64 k, .string b, .string a] w (FreshCardB w.heap.size d f (exchRes d f ss k b a).1 (exchRes d f ss k b a).2 w) := by
  have hn := hS.nb
  have hl := hS.len
  have hS2 := (hS.alloc hB (.cells #[.int .i64 d, .int .i64 f, .slice A n c] 34)).alloc (by simp; omega) (.cells #[.int .i64 0, .int .i64 0, .slice none 0 0] 34)
  have HL := Lib.hid hl
  cases hh : (cardOk d f ss && inB k 0 ((n : Int) - 1))
  · have HP := Lib.hid (exchRes_no (d := d) (f := f) (ss := ss) (k := k) (b := b) (a := a) (by rw [hl]; exact hh))
    clear hl
    cases hc0 : cardOk d f ss
    · have hk : Hid True := trivial
      clear hk
      clear hh
      go_enter Tryz.func163, Tryz.ntmps163
      go_wp2_with (first | (go_at_call 118; refine (s_CardOk _ _ _ _ _ ss _ (hS2.more (by simp; omega))).mono ?_; rw [hc0]; rintro e w1 ⟨rfl, hb1⟩; obtain ⟨hcb, hfb⟩ := bcell hb1; have hz_w1_0 : w.heap.size < w1.heap.size := (by have hzz := hb1.size; (try simp at hzz); omega); have hy_w1_0 := Nat.le_of_lt hz_w1_0; have hz_w1_1 : w.heap.size + 1 < w1.heap.size := (by have hzz := hb1.size; (try simp at hzz); omega); have hy_w1_1 := Nat.le_of_lt hz_w1_1) | (go_at_call 77; refine (s_l05Copy _ _ B _ _ _ ss _ (hS2.below (hb1.mono (by simp; omega))) (by first | omega | (simp; omega))).mono ?_; rintro e w3 ⟨A3, c3, rfl, ho3, hb3⟩; obtain ⟨hcb3, hfb3⟩ := bcell hb3; have hz_w3_0 : w.heap.size < w3.heap.size := (by have hzz := hb3.size; (try simp at hzz); omega); have hy_w3_0 := Nat.le_of_lt hz_w3_0; have hz_w3_1 : w.heap.size + 1 < w3.heap.size := (by have hzz := hb3.size; (try simp at hzz); omega); have hy_w3_1 := Nat.le_of_lt hz_w3_1))
      refine bodyPost_ret (v := .tuple #[.agg #[.int .i64 d, .int .i64 f, .slice A3 ss.length c3], .bool false]) (by simp [results, Tryz.results163, go_sem, *]) rfl ?_
      rw [HP.out]
      exact ⟨A3, c3, rfl, own_up ho3 upr (by first | exact Nat.le_refl _ | (simp; done) | omega | (simp; omega) | exact (‹_ ∧ _ ∧ Below _ _ _›).2.2.size), bel⟩
    · have hk : inB k 0 ((n : Int) - 1) = false := by simpa [hc0] using hh
      clear hh
      go_enter Tryz.func163, Tryz.ntmps163
      go_wp2_with (first | (go_at_call 118; refine (s_CardOk _ _ _ _ _ ss _ (hS2.more (by simp; omega))).mono ?_; rw [hc0]; rintro e w1 ⟨rfl, hb1⟩; obtain ⟨hcb, hfb⟩ := bcell hb1; have hz_w1_0 : w.heap.size < w1.heap.size := (by have hzz := hb1.size; (try simp at hzz); omega); have hy_w1_0 := Nat.le_of_lt hz_w1_0; have hz_w1_1 : w.heap.size + 1 < w1.heap.size := (by have hzz := hb1.size; (try simp at hzz); omega); have hy_w1_1 := Nat.le_of_lt hz_w1_1) | (go_at_call 65; refine (s_l01In _ _ _ _).mono ?_; rw [hk]; rintro e w' ⟨rfl, rfl⟩) | (go_at_call 77; refine (s_l05Copy _ _ B _ _ _ ss _ (hS2.below (hb1.mono (by simp; omega))) (by first | omega | (simp; omega))).mono ?_; rintro e w3 ⟨A3, c3, rfl, ho3, hb3⟩; obtain ⟨hcb3, hfb3⟩ := bcell hb3; have hz_w3_0 : w.heap.size < w3.heap.size := (by have hzz := hb3.size; (try simp at hzz); omega); have hy_w3_0 := Nat.le_of_lt hz_w3_0; have hz_w3_1 : w.heap.size + 1 < w3.heap.size := (by have hzz := hb3.size; (try simp at hzz); omega); have hy_w3_1 := Nat.le_of_lt hz_w3_1))
      refine bodyPost_ret (v := .tuple #[.agg #[.int .i64 d, .int .i64 f, .slice A3 ss.length c3], .bool false]) (by simp [results, Tryz.results163, go_sem, *]) rfl ?_
      rw [HP.out]
      exact ⟨A3, c3, rfl, own_up ho3 upr (by first | exact Nat.le_refl _ | (simp; done) | omega | (simp; omega) | exact (‹_ ∧ _ ∧ Below _ _ _›).2.2.size), bel⟩
  · obtain ⟨hc0, hk⟩ : cardOk d f ss = true ∧ inB k 0 ((n : Int) - 1) = true := by simpa using hh
    obtain ⟨hk0, hk1⟩ := inB_iff.1 hk
    obtain ⟨k, rfl⟩ := Int.eq_ofNat_of_zero_le hk0
    have hkn : k < n := by omega
    obtain ⟨hkl, ad, rfl, hab, hcell, hsz⟩ := hS.at_ hkn
    have hadn0 : ad.block ≠ w.heap.size := by omega
    have hadl : ad.block < w.heap.size := by omega
    have hS4 := hS2.at_ hkn
    by_cases he : ss[k] = b
    · have HP := Lib.hid (exchRes_eq (d := d) (f := f) (b := b) (a := a) hkl (by rw [hl]; exact hh) he)
      have hbq := beq_toList_true he
      clear hl he hk0 hk1
      go_enter Tryz.func163, Tryz.ntmps163
      go_wp2_with (first | (go_at_call 118; refine (s_CardOk _ _ _ _ _ ss _ (hS2.more (by simp; omega))).mono ?_; rw [hc0]; rintro e w1 ⟨rfl, hb1⟩; obtain ⟨hcb, hfb⟩ := bcell hb1; have hz_w1_0 : w.heap.size < w1.heap.size := (by have hzz := hb1.size; (try simp at hzz); omega); have hy_w1_0 := Nat.le_of_lt hz_w1_0; have hz_w1_1 : w.heap.size + 1 < w1.heap.size := (by have hzz := hb1.size; (try simp at hzz); omega); have hy_w1_1 := Nat.le_of_lt hz_w1_1; (have hck : w1.cell? (ad.add k) = some (.string ss[k]) := (by rw [hb1.cell (by rw [block_of_add]; simp; omega), World.cell?_alloc_lt _ _ _ (by rw [block_of_add]; simp; omega), World.cell?_alloc_lt _ _ _ (by rw [block_of_add]; omega)]; exact hcell))) | (go_at_call 65; refine (s_l01In _ _ _ _).mono ?_; rw [hk]; rintro e w' ⟨rfl, rfl⟩) | (go_at_call 188; refine (s_WithStrip _ _ B _ _ _ ss _ _ _ (hS2.below (hb1.mono (by simp; omega))) (by omega) ha).mono ?_; rintro e w3 ⟨A3, c3, rfl, ho3, hb3⟩; obtain ⟨hcb3, hfb3⟩ := bcell hb3; have hz_w3_0 : w.heap.size < w3.heap.size := (by have hzz := hb3.size; (try simp at hzz); omega); have hy_w3_0 := Nat.le_of_lt hz_w3_0; have hz_w3_1 : w.heap.size + 1 < w3.heap.size := (by have hzz := hb3.size; (try simp at hzz); omega); have hy_w3_1 := Nat.le_of_lt hz_w3_1))
      refine bodyPost_ret (v := .tuple #[.agg #[.int .i64 d, .int .i64 f, .slice A3 (putAt d f ss (k : Int) a).1.length c3], .bool (putAt d f ss (k : Int) a).2]) (by simp [results, Tryz.results163, go_sem, *]) rfl ?_
      rw [HP.out]
      exact ⟨A3, c3, rfl, own_up ho3 upr (by first | exact Nat.le_refl _ | (simp; done) | omega | (simp; omega) | exact (‹_ ∧ _ ∧ Below _ _ _›).2.2.size), bel⟩
    · have HP := Lib.hid (exchRes_ne (d := d) (f := f) (b := b) (a := a) hkl he)
      have hbq := beq_toList_false he
      clear hl he hk0 hk1
      go_enter Tryz.func163, Tryz.ntmps163
      go_wp2_with (first | (go_at_call 118; refine (s_CardOk _ _ _ _ _ ss _ (hS2.more (by simp; omega))).mono ?_; rw [hc0]; rintro e w1 ⟨rfl, hb1⟩; obtain ⟨hcb, hfb⟩ := bcell hb1; have hz_w1_0 : w.heap.size < w1.heap.size := (by have hzz := hb1.size; (try simp at hzz); omega); have hy_w1_0 := Nat.le_of_lt hz_w1_0; have hz_w1_1 : w.heap.size + 1 < w1.heap.size := (by have hzz := hb1.size; (try simp at hzz); omega); have hy_w1_1 := Nat.le_of_lt hz_w1_1; (have hck : w1.cell? (ad.add k) = some (.string ss[k]) := (by rw [hb1.cell (by rw [block_of_add]; simp; omega), World.cell?_alloc_lt _ _ _ (by rw [block_of_add]; simp; omega), World.cell?_alloc_lt _ _ _ (by rw [block_of_add]; omega)]; exact hcell))) | (go_at_call 65; refine (s_l01In _ _ _ _).mono ?_; rw [hk]; rintro e w' ⟨rfl, rfl⟩) | (go_at_call 77; refine (s_l05Copy _ _ B _ _ _ ss _ (hS2.below (hb1.mono (by simp; omega))) (by first | omega | (simp; omega))).mono ?_; rintro e w3 ⟨A3, c3, rfl, ho3, hb3⟩; obtain ⟨hcb3, hfb3⟩ := bcell hb3; have hz_w3_0 : w.heap.size < w3.heap.size := (by have hzz := hb3.size; (try simp at hzz); omega); have hy_w3_0 := Nat.le_of_lt hz_w3_0; have hz_w3_1 : w.heap.size + 1 < w3.heap.size := (by have hzz := hb3.size; (try simp at hzz); omega); have hy_w3_1 := Nat.le_of_lt hz_w3_1))
      refine bodyPost_ret (v := .tuple #[.agg #[.int .i64 d, .int .i64 f, .slice A3 ss.length c3], .bool false]) (by simp [results, Tryz.results163, go_sem, *]) rfl ?_
      rw [HP.out]
      exact ⟨A3, c3, rfl, own_up ho3 upr (by first | exact Nat.le_refl _ | (simp; done) | omega | (simp; omega) | exact (‹_ ∧ _ ∧ Below _ _ _›).2.2.size), bel⟩
set_option maxHeartbeats 1600000 in
theorem i_StepOn (d f : Int) (B : Nat) (A : Option Addr) (n c : Nat) (ss : List ByteArray) (K F L T I : Int) (b a : ByteArray) (w : World) (hS : Strs w B A n ss) (hB : B ≤ w.heap.size) (hbz : b.size ≤ 16777216) (haz : a.size ≤ 16777216) :
    Calls Tryz.prog 127 #[.agg #[.int .i64 d, .int .i64 f, .slice A n c], .agg #[.int .i64 K, .int .i64 F, .int .i64 L, .int .i64 T, .int .i64 I, .string b, .string a]] w (FreshCardB w.heap.size d f (stepRes true d f ss K F L T I b a).1 (stepRes true d f ss K F L T I b a).2 w) := by
  have hn := hS.nb
  have hS2 := ((hS.alloc hB (.cells #[.int .i64 d, .int .i64 f, .slice A n c] 34)).alloc (by simp; omega) (.cells #[.int .i64 K, .int .i64 F, .int .i64 L, .int .i64 T, .int .i64 I, .string b, .string a] 65)).alloc (by simp; omega) (.cells #[.int .i64 0, .int .i64 0, .slice none 0 0] 34)
  cases hp : plainStep K F L T I b a
  · have HP := Lib.hid (stepRes_no (on := true) (d := d) (f := f) (ss := ss) hp)
    go_enter Tryz.func127, Tryz.ntmps127
    go_wp2_with (first | (go_at_call 167; refine (i_isPlain _ _ _ _ _ _ _ _).mono ?_; rw [hp]; rintro e w1 ⟨rfl, hb1⟩; obtain ⟨hcb, hfb⟩ := bcell hb1; have hz_w1_0 : w.heap.size < w1.heap.size := (by have hzz := hb1.size; (try simp at hzz); omega); have hy_w1_0 := Nat.le_of_lt hz_w1_0; have hz_w1_1 : w.heap.size + 1 < w1.heap.size := (by have hzz := hb1.size; (try simp at hzz); omega); have hy_w1_1 := Nat.le_of_lt hz_w1_1; have hz_w1_2 : w.heap.size + 1 + 1 < w1.heap.size := (by have hzz := hb1.size; (try simp at hzz); omega); have hy_w1_2 := Nat.le_of_lt hz_w1_2) | (go_at_call 79; refine (i_copied _ _ B _ _ _ ss _ (hS2.below (hb1.mono (by simp; omega))) (by first | omega | (simp; omega))).mono ?_; rintro e w3 ⟨A3, c3, rfl, ho3, hb3⟩; obtain ⟨hcb3, hfb3⟩ := bcell hb3; have hz_w3_0 : w.heap.size < w3.heap.size := (by have hzz := hb3.size; (try simp at hzz); omega); have hy_w3_0 := Nat.le_of_lt hz_w3_0; have hz_w3_1 : w.heap.size + 1 < w3.heap.size := (by have hzz := hb3.size; (try simp at hzz); omega); have hy_w3_1 := Nat.le_of_lt hz_w3_1; have hz_w3_2 : w.heap.size + 1 + 1 < w3.heap.size := (by have hzz := hb3.size; (try simp at hzz); omega); have hy_w3_2 := Nat.le_of_lt hz_w3_2))
    refine bodyPost_ret (v := .tuple #[.agg #[.int .i64 d, .int .i64 f, .slice A3 ss.length c3], .bool false]) (by simp [results, Tryz.results127, go_sem, *]) rfl ?_
    rw [HP.out]
    exact ⟨A3, c3, rfl, own_up ho3 upr (by first | exact Nat.le_refl _ | (simp; done) | omega | (simp; omega) | exact (‹_ ∧ _ ∧ Below _ _ _›).2.2.size), bel⟩
  · rcases plain_iff hp with h | h | h
    · subst h
      have HP : Hid (stepRes true d f ss 1 F L T I b a = boxRes 100 d f ss F L T) := by unfold Hid stepRes; rw [hp]; simp
      go_enter Tryz.func127, Tryz.ntmps127
      go_wp2_with (first | (go_at_call 167; refine (i_isPlain _ _ _ _ _ _ _ _).mono ?_; rw [hp]; rintro e w1 ⟨rfl, hb1⟩; obtain ⟨hcb, hfb⟩ := bcell hb1; have hz_w1_0 : w.heap.size < w1.heap.size := (by have hzz := hb1.size; (try simp at hzz); omega); have hy_w1_0 := Nat.le_of_lt hz_w1_0; have hz_w1_1 : w.heap.size + 1 < w1.heap.size := (by have hzz := hb1.size; (try simp at hzz); omega); have hy_w1_1 := Nat.le_of_lt hz_w1_1; have hz_w1_2 : w.heap.size + 1 + 1 < w1.heap.size := (by have hzz := hb1.size; (try simp at hzz); omega); have hy_w1_2 := Nat.le_of_lt hz_w1_2) | (go_at_call 168; refine (i_AddBox _ _ B _ _ _ ss _ _ _ _ (hS2.below (hb1.mono (by simp; omega))) (by first | omega | (simp; omega))).mono ?_; rintro e w3 ⟨A3, c3, rfl, ho3, hb3⟩; obtain ⟨hcb3, hfb3⟩ := bcell hb3; have hz_w3_0 : w.heap.size < w3.heap.size := (by have hzz := hb3.size; (try simp at hzz); omega); have hy_w3_0 := Nat.le_of_lt hz_w3_0; have hz_w3_1 : w.heap.size + 1 < w3.heap.size := (by have hzz := hb3.size; (try simp at hzz); omega); have hy_w3_1 := Nat.le_of_lt hz_w3_1; have hz_w3_2 : w.heap.size + 1 + 1 < w3.heap.size := (by have hzz := hb3.size; (try simp at hzz); omega); have hy_w3_2 := Nat.le_of_lt hz_w3_2))
      refine bodyPost_ret (v := .tuple #[.agg #[.int .i64 d, .int .i64 f, .slice A3 (boxRes 100 d f ss F L T).1.length c3], .bool (boxRes 100 d f ss F L T).2]) (by simp [results, Tryz.results127, go_sem, *]) rfl ?_
      rw [HP.out]
      exact ⟨A3, c3, rfl, own_up ho3 upr (by first | exact Nat.le_refl _ | (simp; done) | omega | (simp; omega) | exact (‹_ ∧ _ ∧ Below _ _ _›).2.2.size), bel⟩
    · subst h
      have HP : Hid (stepRes true d f ss 2 F L T I b a = boxRes 102 d f ss F L T) := by unfold Hid stepRes; rw [hp]; simp
      go_enter Tryz.func127, Tryz.ntmps127
      go_wp2_with (first | (go_at_call 167; refine (i_isPlain _ _ _ _ _ _ _ _).mono ?_; rw [hp]; rintro e w1 ⟨rfl, hb1⟩; obtain ⟨hcb, hfb⟩ := bcell hb1; have hz_w1_0 : w.heap.size < w1.heap.size := (by have hzz := hb1.size; (try simp at hzz); omega); have hy_w1_0 := Nat.le_of_lt hz_w1_0; have hz_w1_1 : w.heap.size + 1 < w1.heap.size := (by have hzz := hb1.size; (try simp at hzz); omega); have hy_w1_1 := Nat.le_of_lt hz_w1_1; have hz_w1_2 : w.heap.size + 1 + 1 < w1.heap.size := (by have hzz := hb1.size; (try simp at hzz); omega); have hy_w1_2 := Nat.le_of_lt hz_w1_2) | (go_at_call 169; refine (i_TakeBox _ _ B _ _ _ ss _ _ _ _ (hS2.below (hb1.mono (by simp; omega))) (by first | omega | (simp; omega))).mono ?_; rintro e w3 ⟨A3, c3, rfl, ho3, hb3⟩; obtain ⟨hcb3, hfb3⟩ := bcell hb3; have hz_w3_0 : w.heap.size < w3.heap.size := (by have hzz := hb3.size; (try simp at hzz); omega); have hy_w3_0 := Nat.le_of_lt hz_w3_0; have hz_w3_1 : w.heap.size + 1 < w3.heap.size := (by have hzz := hb3.size; (try simp at hzz); omega); have hy_w3_1 := Nat.le_of_lt hz_w3_1; have hz_w3_2 : w.heap.size + 1 + 1 < w3.heap.size := (by have hzz := hb3.size; (try simp at hzz); omega); have hy_w3_2 := Nat.le_of_lt hz_w3_2))
      refine bodyPost_ret (v := .tuple #[.agg #[.int .i64 d, .int .i64 f, .slice A3 (boxRes 102 d f ss F L T).1.length c3], .bool (boxRes 102 d f ss F L T).2]) (by simp [results, Tryz.results127, go_sem, *]) rfl ?_
      rw [HP.out]
      exact ⟨A3, c3, rfl, own_up ho3 upr (by first | exact Nat.le_refl _ | (simp; done) | omega | (simp; omega) | exact (‹_ ∧ _ ∧ Below _ _ _›).2.2.size), bel⟩
    · subst h
      have HP : Hid (stepRes true d f ss 3 F L T I b a = exchRes d f ss I b a) := by unfold Hid stepRes; rw [hp]; simp
      go_enter Tryz.func127, Tryz.ntmps127
      go_wp2_with (first | (go_at_call 167; refine (i_isPlain _ _ _ _ _ _ _ _).mono ?_; rw [hp]; rintro e w1 ⟨rfl, hb1⟩; obtain ⟨hcb, hfb⟩ := bcell hb1; have hz_w1_0 : w.heap.size < w1.heap.size := (by have hzz := hb1.size; (try simp at hzz); omega); have hy_w1_0 := Nat.le_of_lt hz_w1_0; have hz_w1_1 : w.heap.size + 1 < w1.heap.size := (by have hzz := hb1.size; (try simp at hzz); omega); have hy_w1_1 := Nat.le_of_lt hz_w1_1; have hz_w1_2 : w.heap.size + 1 + 1 < w1.heap.size := (by have hzz := hb1.size; (try simp at hzz); omega); have hy_w1_2 := Nat.le_of_lt hz_w1_2) | (go_at_call 170; refine (i_exchange _ _ B _ _ _ ss _ _ _ _ (hS2.below (hb1.mono (by simp; omega))) (by first | omega | (simp; omega)) haz).mono ?_; rintro e w3 ⟨A3, c3, rfl, ho3, hb3⟩; obtain ⟨hcb3, hfb3⟩ := bcell hb3; have hz_w3_0 : w.heap.size < w3.heap.size := (by have hzz := hb3.size; (try simp at hzz); omega); have hy_w3_0 := Nat.le_of_lt hz_w3_0; have hz_w3_1 : w.heap.size + 1 < w3.heap.size := (by have hzz := hb3.size; (try simp at hzz); omega); have hy_w3_1 := Nat.le_of_lt hz_w3_1; have hz_w3_2 : w.heap.size + 1 + 1 < w3.heap.size := (by have hzz := hb3.size; (try simp at hzz); omega); have hy_w3_2 := Nat.le_of_lt hz_w3_2))
      refine bodyPost_ret (v := .tuple #[.agg #[.int .i64 d, .int .i64 f, .slice A3 (exchRes d f ss I b a).1.length c3], .bool (exchRes d f ss I b a).2]) (by simp [results, Tryz.results127, go_sem, *]) rfl ?_
      rw [HP.out]
      exact ⟨A3, c3, rfl, own_up ho3 upr (by first | exact Nat.le_refl _ | (simp; done) | omega | (simp; omega) | exact (‹_ ∧ _ ∧ Below _ _ _›).2.2.size), bel⟩
set_option maxHeartbeats 1600000 in
theorem s_StepOn (d f : Int) (B : Nat) (A : Option Addr) (n c : Nat) (ss : List ByteArray) (K F L T I : Int) (b a : ByteArray) (w : World) (hS : Strs w B A n ss) (hB : B ≤ w.heap.size) (hbz : b.size ≤ 16777216) (haz : a.size ≤ 16777216) :
    Calls Tryz.prog 119 #[.agg #[.int .i64 d, .int .i64 f, .slice A n c], .agg #[.int .i64 K, .int .i64 F, .int .i64 L, .int .i64 T, .int .i64 I, .string b, .string a]] w (FreshCardB w.heap.size d f (stepRes true d f ss K F L T I b a).1 (stepRes true d f ss K F L T I b a).2 w) := by
  have hn := hS.nb
  have hS2 := ((hS.alloc hB (.cells #[.int .i64 d, .int .i64 f, .slice A n c] 34)).alloc (by simp; omega) (.cells #[.int .i64 K, .int .i64 F, .int .i64 L, .int .i64 T, .int .i64 I, .string b, .string a] 65)).alloc (by simp; omega) (.cells #[.int .i64 0, .int .i64 0, .slice none 0 0] 34)
  cases hp : plainStep K F L T I b a
  · have HP := Lib.hid (stepRes_no (on := true) (d := d) (f := f) (ss := ss) hp)
    go_enter Tryz.func119, Tryz.ntmps119
    go_wp2_with (first | (go_at_call 160; refine (s_l37Plain _ _ _ _ _ _ _ _).mono ?_; rw [hp]; rintro e w1 ⟨rfl, hb1⟩; obtain ⟨hcb, hfb⟩ := bcell hb1; have hz_w1_0 : w.heap.size < w1.heap.size := (by have hzz := hb1.size; (try simp at hzz); omega); have hy_w1_0 := Nat.le_of_lt hz_w1_0; have hz_w1_1 : w.heap.size + 1 < w1.heap.size := (by have hzz := hb1.size; (try simp at hzz); omega); have hy_w1_1 := Nat.le_of_lt hz_w1_1; have hz_w1_2 : w.heap.size + 1 + 1 < w1.heap.size := (by have hzz := hb1.size; (try simp at hzz); omega); have hy_w1_2 := Nat.le_of_lt hz_w1_2) | (go_at_call 77; refine (s_l05Copy _ _ B _ _ _ ss _ (hS2.below (hb1.mono (by simp; omega))) (by first | omega | (simp; omega))).mono ?_; rintro e w3 ⟨A3, c3, rfl, ho3, hb3⟩; obtain ⟨hcb3, hfb3⟩ := bcell hb3; have hz_w3_0 : w.heap.size < w3.heap.size := (by have hzz := hb3.size; (try simp at hzz); omega); have hy_w3_0 := Nat.le_of_lt hz_w3_0; have hz_w3_1 : w.heap.size + 1 < w3.heap.size := (by have hzz := hb3.size; (try simp at hzz); omega); have hy_w3_1 := Nat.le_of_lt hz_w3_1; have hz_w3_2 : w.heap.size + 1 + 1 < w3.heap.size := (by have hzz := hb3.size; (try simp at hzz); omega); have hy_w3_2 := Nat.le_of_lt hz_w3_2))
    refine bodyPost_ret (v := .tuple #[.agg #[.int .i64 d, .int .i64 f, .slice A3 ss.length c3], .bool false]) (by simp [results, Tryz.results119, go_sem, *]) rfl ?_
    rw [HP.out]
    exact ⟨A3, c3, rfl, own_up ho3 upr (by first | exact Nat.le_refl _ | (simp; done) | omega | (simp; omega) | exact (‹_ ∧ _ ∧ Below _ _ _›).2.2.size), bel⟩
  · rcases plain_iff hp with h | h | h
    · subst h
      have HP : Hid (stepRes true d f ss 1 F L T I b a = boxRes 100 d f ss F L T) := by unfold Hid stepRes; rw [hp]; simp
      go_enter Tryz.func119, Tryz.ntmps119
      go_wp2_with (first | (go_at_call 160; refine (s_l37Plain _ _ _ _ _ _ _ _).mono ?_; rw [hp]; rintro e w1 ⟨rfl, hb1⟩; obtain ⟨hcb, hfb⟩ := bcell hb1; have hz_w1_0 : w.heap.size < w1.heap.size := (by have hzz := hb1.size; (try simp at hzz); omega); have hy_w1_0 := Nat.le_of_lt hz_w1_0; have hz_w1_1 : w.heap.size + 1 < w1.heap.size := (by have hzz := hb1.size; (try simp at hzz); omega); have hy_w1_1 := Nat.le_of_lt hz_w1_1; have hz_w1_2 : w.heap.size + 1 + 1 < w1.heap.size := (by have hzz := hb1.size; (try simp at hzz); omega); have hy_w1_2 := Nat.le_of_lt hz_w1_2) | (go_at_call 161; refine (s_AddBox _ _ B _ _ _ ss _ _ _ _ (hS2.below (hb1.mono (by simp; omega))) (by first | omega | (simp; omega))).mono ?_; rintro e w3 ⟨A3, c3, rfl, ho3, hb3⟩; obtain ⟨hcb3, hfb3⟩ := bcell hb3; have hz_w3_0 : w.heap.size < w3.heap.size := (by have hzz := hb3.size; (try simp at hzz); omega); have hy_w3_0 := Nat.le_of_lt hz_w3_0; have hz_w3_1 : w.heap.size + 1 < w3.heap.size := (by have hzz := hb3.size; (try simp at hzz); omega); have hy_w3_1 := Nat.le_of_lt hz_w3_1; have hz_w3_2 : w.heap.size + 1 + 1 < w3.heap.size := (by have hzz := hb3.size; (try simp at hzz); omega); have hy_w3_2 := Nat.le_of_lt hz_w3_2))
      refine bodyPost_ret (v := .tuple #[.agg #[.int .i64 d, .int .i64 f, .slice A3 (boxRes 100 d f ss F L T).1.length c3], .bool (boxRes 100 d f ss F L T).2]) (by simp [results, Tryz.results119, go_sem, *]) rfl ?_
      rw [HP.out]
      exact ⟨A3, c3, rfl, own_up ho3 upr (by first | exact Nat.le_refl _ | (simp; done) | omega | (simp; omega) | exact (‹_ ∧ _ ∧ Below _ _ _›).2.2.size), bel⟩
    · subst h
      have HP : Hid (stepRes true d f ss 2 F L T I b a = boxRes 102 d f ss F L T) := by unfold Hid stepRes; rw [hp]; simp
      go_enter Tryz.func119, Tryz.ntmps119
      go_wp2_with (first | (go_at_call 160; refine (s_l37Plain _ _ _ _ _ _ _ _).mono ?_; rw [hp]; rintro e w1 ⟨rfl, hb1⟩; obtain ⟨hcb, hfb⟩ := bcell hb1; have hz_w1_0 : w.heap.size < w1.heap.size := (by have hzz := hb1.size; (try simp at hzz); omega); have hy_w1_0 := Nat.le_of_lt hz_w1_0; have hz_w1_1 : w.heap.size + 1 < w1.heap.size := (by have hzz := hb1.size; (try simp at hzz); omega); have hy_w1_1 := Nat.le_of_lt hz_w1_1; have hz_w1_2 : w.heap.size + 1 + 1 < w1.heap.size := (by have hzz := hb1.size; (try simp at hzz); omega); have hy_w1_2 := Nat.le_of_lt hz_w1_2) | (go_at_call 162; refine (s_TakeBox _ _ B _ _ _ ss _ _ _ _ (hS2.below (hb1.mono (by simp; omega))) (by first | omega | (simp; omega))).mono ?_; rintro e w3 ⟨A3, c3, rfl, ho3, hb3⟩; obtain ⟨hcb3, hfb3⟩ := bcell hb3; have hz_w3_0 : w.heap.size < w3.heap.size := (by have hzz := hb3.size; (try simp at hzz); omega); have hy_w3_0 := Nat.le_of_lt hz_w3_0; have hz_w3_1 : w.heap.size + 1 < w3.heap.size := (by have hzz := hb3.size; (try simp at hzz); omega); have hy_w3_1 := Nat.le_of_lt hz_w3_1; have hz_w3_2 : w.heap.size + 1 + 1 < w3.heap.size := (by have hzz := hb3.size; (try simp at hzz); omega); have hy_w3_2 := Nat.le_of_lt hz_w3_2))
      refine bodyPost_ret (v := .tuple #[.agg #[.int .i64 d, .int .i64 f, .slice A3 (boxRes 102 d f ss F L T).1.length c3], .bool (boxRes 102 d f ss F L T).2]) (by simp [results, Tryz.results119, go_sem, *]) rfl ?_
      rw [HP.out]
      exact ⟨A3, c3, rfl, own_up ho3 upr (by first | exact Nat.le_refl _ | (simp; done) | omega | (simp; omega) | exact (‹_ ∧ _ ∧ Below _ _ _›).2.2.size), bel⟩
    · subst h
      have HP : Hid (stepRes true d f ss 3 F L T I b a = exchRes d f ss I b a) := by unfold Hid stepRes; rw [hp]; simp
      go_enter Tryz.func119, Tryz.ntmps119
      go_wp2_with (first | (go_at_call 160; refine (s_l37Plain _ _ _ _ _ _ _ _).mono ?_; rw [hp]; rintro e w1 ⟨rfl, hb1⟩; obtain ⟨hcb, hfb⟩ := bcell hb1; have hz_w1_0 : w.heap.size < w1.heap.size := (by have hzz := hb1.size; (try simp at hzz); omega); have hy_w1_0 := Nat.le_of_lt hz_w1_0; have hz_w1_1 : w.heap.size + 1 < w1.heap.size := (by have hzz := hb1.size; (try simp at hzz); omega); have hy_w1_1 := Nat.le_of_lt hz_w1_1; have hz_w1_2 : w.heap.size + 1 + 1 < w1.heap.size := (by have hzz := hb1.size; (try simp at hzz); omega); have hy_w1_2 := Nat.le_of_lt hz_w1_2) | (go_at_call 163; refine (s_l37Replace _ _ B _ _ _ ss _ _ _ _ (hS2.below (hb1.mono (by simp; omega))) (by first | omega | (simp; omega)) haz).mono ?_; rintro e w3 ⟨A3, c3, rfl, ho3, hb3⟩; obtain ⟨hcb3, hfb3⟩ := bcell hb3; have hz_w3_0 : w.heap.size < w3.heap.size := (by have hzz := hb3.size; (try simp at hzz); omega); have hy_w3_0 := Nat.le_of_lt hz_w3_0; have hz_w3_1 : w.heap.size + 1 < w3.heap.size := (by have hzz := hb3.size; (try simp at hzz); omega); have hy_w3_1 := Nat.le_of_lt hz_w3_1; have hz_w3_2 : w.heap.size + 1 + 1 < w3.heap.size := (by have hzz := hb3.size; (try simp at hzz); omega); have hy_w3_2 := Nat.le_of_lt hz_w3_2))
      refine bodyPost_ret (v := .tuple #[.agg #[.int .i64 d, .int .i64 f, .slice A3 (exchRes d f ss I b a).1.length c3], .bool (exchRes d f ss I b a).2]) (by simp [results, Tryz.results119, go_sem, *]) rfl ?_
      rw [HP.out]
      exact ⟨A3, c3, rfl, own_up ho3 upr (by first | exact Nat.le_refl _ | (simp; done) | omega | (simp; omega) | exact (‹_ ∧ _ ∧ Below _ _ _›).2.2.size), bel⟩
theorem boxRes_ok (c : UInt8) (d f : Int) (ss : List ByteArray) (F L T : Int) (m : Nat) (hl : ss.length ≤ m) (hs : ∀ x ∈ ss, x.size ≤ 16777216) : (boxRes c d f ss F L T).1.length ≤ m ∧ ∀ x ∈ (boxRes c d f ss F L T).1, x.size ≤ 16777216 := by
  unfold boxRes
  split
  · exact ⟨by show (flips _ _ _ _).length ≤ _; rw [flips_len]; omega, fun x hx => flips_size (c := c) hs (‹_ ∧ _›).2 x hx⟩
  · exact ⟨hl, hs⟩
theorem putAt_ok (d f : Int) (ss : List ByteArray) (k : Int) (s : ByteArray) (m : Nat) (hl : ss.length ≤ m) (hs : ∀ x ∈ ss, x.size ≤ 16777216) (h : s.size ≤ 16777216) : (putAt d f ss k s).1.length ≤ m ∧ ∀ x ∈ (putAt d f ss k s).1, x.size ≤ 16777216 := by
  unfold putAt
  split
  · refine ⟨by show (ss.set _ _).length ≤ _; rw [List.length_set]; omega, fun x hx => ?_⟩
    rcases List.mem_or_eq_of_mem_set hx with h1 | h1
    · exact hs x h1
    · rw [h1]; exact h
  · exact ⟨hl, hs⟩
theorem exchRes_ok (d f : Int) (ss : List ByteArray) (k : Int) (b a : ByteArray) (m : Nat) (hl : ss.length ≤ m) (hs : ∀ x ∈ ss, x.size ≤ 16777216) (h : a.size ≤ 16777216) : (exchRes d f ss k b a).1.length ≤ m ∧ ∀ x ∈ (exchRes d f ss k b a).1, x.size ≤ 16777216 := by
  unfold exchRes
  split
  · exact putAt_ok d f ss k a m hl hs h
  · exact ⟨hl, hs⟩
theorem stepRes_ok (on : Bool) (d f : Int) (ss : List ByteArray) (K F L T I : Int) (b a : ByteArray) (m : Nat) (hl : ss.length ≤ m) (hm : m ≤ 16777216) (hs : ∀ x ∈ ss, x.size ≤ 16777216) (hb : b.size ≤ 16777216) (ha : a.size ≤ 16777216) :
    (stepRes on d f ss K F L T I b a).1.length ≤ m ∧ ∀ x ∈ (stepRes on d f ss K F L T I b a).1, x.size ≤ 16777216 := by
  unfold stepRes
  split
  · exact ⟨hl, hs⟩
  · split
    · exact boxRes_ok _ d f ss F L T m hl hs
    · split
      · exact boxRes_ok _ d f ss F L T m hl hs
      · split
        · exact exchRes_ok d f ss I b a m hl hs ha
        · exact exchRes_ok d f ss I a b m hl hs hb
end Go.Proofs.YtdddglihomchfaaGreat
namespace Go.Proofs.YtdddglihomchfaaGreat
open Go.ChangeShapes Go.WideShapes Go.ChangeAt Go.RowKit
set_option linter.unusedVariables false
set_option maxRecDepth 10000
set_option maxHeartbeats 800000 in
theorem equal_str (B : Nat) (A1 A2 : Option Addr) (n1 n2 c1 c2 : Nat) (ss ts : List ByteArray) (w : World) (h1 : Strs w B A1 n1 ss) (h2 : Strs w B A2 n2 ts) :
    Calls Tryz.prog 171 #[.slice A1 n1 c1, .slice A2 n2 c2] w fun e w' => e = .returned (.bool (eqSS ss ts)) ∧ ∃ m, w' = w.drewN m := by
  have hl1 := h1.len
  have hl2 := h2.len
  have hn1 := h1.nb
  have hn2 := h2.nb
  by_cases hn : n1 = n2
  · subst hn
    have HL1 := Lib.hid hl1
    have HL2 := Lib.hid hl2
    clear hl1 hl2
    go_enter Tryz.func171, Tryz.ntmps171
    go_wp2
    go_loopw [13] (fun i wr => ∃ j m : Nat, j ≤ n1 ∧ i = .int .i64 j ∧ wr = w.drewN m ∧ Hid (ss.take j = ts.take j)) (fun i _ => n1 - (intOf i).toNat)
    case atStart => exact ⟨0, 0, Nat.zero_le _, rfl, rfl, by unfold Hid; simp⟩
    case round =>
      obtain ⟨j, m, hj, rfl, rfl, HT⟩ := hrel
      by_cases hlt : j < n1
      · obtain ⟨hk1, ad1, rfl, hab1, hc1, _⟩ := h1.at_ hlt
        obtain ⟨hk2, ad2, rfl, hab2, hc2, _⟩ := h2.at_ hlt
        by_cases he : ss[j] = ts[j]
        · have HE := Lib.hid he
          have hbq := beq_toList_true he
          clear he
          go_wp2
          go_quiet (fail)
          go_wp2
          go_roundw
          case rel =>
            refine ⟨j + 1, _, by omega, by go_num, by first | rfl | exact World.drewN_drewN _ _ _, ?_⟩
            unfold Hid
            rw [List.take_succ_eq_append_getElem hk1, List.take_succ_eq_append_getElem hk2, HT.out, HE.out]
          case measure => simp [intOf]; omega
        · have HF : Hid (eqSS ss ts = false) := by
            unfold Hid eqSS
            rw [decide_eq_false_iff_not]
            intro h; subst h; exact he rfl
          have hbq := beq_toList_false he
          clear he
          go_wp2
          go_quiet (fail)
          go_wp2
          go_ret
          exact ⟨ret_bool HF.out.symm, by first | exact ⟨_, rfl⟩ | exact ⟨_, World.drewN_drewN _ _ _⟩⟩
      · have HF : Hid (eqSS ss ts = true) := by
          unfold Hid eqSS
          rw [decide_eq_true_iff]
          have h := HT.out
          rw [List.take_of_length_le (by have := HL1.out; omega), List.take_of_length_le (by have := HL2.out; omega)] at h
          exact h
        go_wp2
        go_ret
        exact ⟨ret_bool HF.out.symm, by first | exact ⟨_, rfl⟩ | exact ⟨_, World.drewN_drewN _ _ _⟩⟩
  · have HF : Hid (eqSS ss ts = false) := by
      unfold Hid eqSS
      rw [decide_eq_false_iff_not]
      intro h; subst h; omega
    clear hl1 hl2
    go_enter Tryz.func171, Tryz.ntmps171
    go_wp2
    go_ret
    exact ⟨ret_bool HF.out.symm, ⟨0, rfl⟩⟩
theorem blk_other3 {w : World} {g g2 : Nat} {o : Obj} (h : w.heap[g]? = some o) (hne : g ≠ g2) (a b c : Value) : (((w.setCell ⟨g2, 0, none⟩ a).setCell ⟨g2, 1, none⟩ b).setCell ⟨g2, 2, none⟩ c).heap[g]? = some o :=
  (Below.heap_setCell _ _ _ _ hne).trans ((Below.heap_setCell _ _ _ _ hne).trans ((Below.heap_setCell _ _ _ _ hne).trans h))
def sameCard (d f d2 f2 : Int) (ss ts : List ByteArray) : Bool := (d == d2) && ((f == f2) && eqSS ss ts)
set_option maxHeartbeats 800000 in
theorem i_SameCard (d f d2 f2 : Int) (B : Nat) (A A2 : Option Addr) (n c n2 c2 : Nat) (ss ts : List ByteArray) (w : World) (hS : Strs w B A n ss) (hT : Strs w B A2 n2 ts) (hB : B ≤ w.heap.size) :
    Calls Tryz.prog 128 #[.agg #[.int .i64 d, .int .i64 f, .slice A n c], .agg #[.int .i64 d2, .int .i64 f2, .slice A2 n2 c2]] w fun e w' => e = .returned (.bool (sameCard d f d2 f2 ss ts)) ∧ Below w.heap.size w w' := by
  have hn := hS.nb
  have hn2 := hT.nb
  have hS2 := (hS.alloc hB (.cells #[.int .i64 d, .int .i64 f, .slice A n c] 34)).alloc (by simp; omega) (.cells #[.int .i64 d2, .int .i64 f2, .slice A2 n2 c2] 34)
  have hT2 := (hT.alloc hB (.cells #[.int .i64 d, .int .i64 f, .slice A n c] 34)).alloc (by simp; omega) (.cells #[.int .i64 d2, .int .i64 f2, .slice A2 n2 c2] 34)
  have arm := fun (W : World) (h1 : Strs W B A n ss) (h2 : Strs W B A2 n2 ts) => equal_str B A A2 n n2 c c2 ss ts W h1 h2
  have ARM := hide arm
  clear arm
  unfold sameCard
  cases h3 : (d == d2)
  · go_enter Tryz.func128, Tryz.ntmps128
    go_wp2
    go_ret
    exact ⟨rfl, bel⟩
  · cases h4 : (f == f2)
    · go_enter Tryz.func128, Tryz.ntmps128
      go_wp2
      go_ret
      exact ⟨rfl, bel⟩
    · go_enter Tryz.func128, Tryz.ntmps128
      go_wp2_with (go_at_call 171; refine (unhide ARM _ hS2 hT2).mono ?_; rintro e w' ⟨rfl, m, rfl⟩)
      go_ret
      exact ⟨ret_bool (by simp), bel⟩
set_option maxHeartbeats 1600000 in
theorem s_SameCard (d f d2 f2 : Int) (B : Nat) (A A2 : Option Addr) (n c n2 c2 : Nat) (ss ts : List ByteArray) (w : World) (hS : Strs w B A n ss) (hT : Strs w B A2 n2 ts) (hB : B ≤ w.heap.size) :
    Calls Tryz.prog 120 #[.agg #[.int .i64 d, .int .i64 f, .slice A n c], .agg #[.int .i64 d2, .int .i64 f2, .slice A2 n2 c2]] w fun e w' => e = .returned (.bool (sameCard d f d2 f2 ss ts)) ∧ Below w.heap.size w w' := by
  have hn := hS.nb
  have hn2 := hT.nb
  have hS2 := (hS.alloc hB (.cells #[.int .i64 d, .int .i64 f, .slice A n c] 34)).alloc (by simp; omega) (.cells #[.int .i64 d2, .int .i64 f2, .slice A2 n2 c2] 34)
  have hT2 := (hT.alloc hB (.cells #[.int .i64 d, .int .i64 f, .slice A n c] 34)).alloc (by simp; omega) (.cells #[.int .i64 d2, .int .i64 f2, .slice A2 n2 c2] 34)
  have hl := hS.len
  have hl2 := hT.len
  have hnq : (n : Int) = n2 → ss.length = ts.length := fun h => by omega
  have hnn : ¬ (n : Int) = n2 → eqSS ss ts = false := fun h => by unfold eqSS; rw [decide_eq_false_iff_not]; intro h2; subst h2; omega
  have HNN := hide hnn
  have HL := Lib.hid hl
  have HL2 := Lib.hid hl2
  clear hl hl2 hnq hnn
  unfold sameCard
  cases h3 : (d == d2)
  · have e3 : (d != d2) = true := by simpa using h3
    go_enter Tryz.func120, Tryz.ntmps120
    go_wp2
    go_ret
    exact ⟨rfl, bel⟩
  · have e3 : (d != d2) = false := by simpa using h3
    cases h4 : (f == f2)
    · have e4 : (f != f2) = true := by simpa using h4
      go_enter Tryz.func120, Tryz.ntmps120
      go_wp2
      go_ret
      exact ⟨rfl, bel⟩
    · have e4 : (f != f2) = false := by simpa using h4
      cases h5 : ((n : Int) == (n2 : Int))
      · have HF := Lib.hid (unhide HNN (by simpa using h5))
        have e5 : ((n : Int) != (n2 : Int)) = true := by simpa using h5
        go_enter Tryz.func120, Tryz.ntmps120
        go_wp2
        go_ret
        exact ⟨ret_bool (by rw [HF.out]; rfl), bel⟩
      · have hni : (n : Int) = n2 := by simpa using h5
        have hnn : n = n2 := by omega
        clear hni
        subst hnn
        clear h5
        go_enter Tryz.func120, Tryz.ntmps120
        go_wp2
        go_loopw [5] (fun i wr => ∃ j m : Nat, j ≤ n ∧ i = .int .i64 j ∧ wr = ((w.alloc (.cells #[.int .i64 d, .int .i64 f, .slice A n c] 34)).alloc (.cells #[.int .i64 d2, .int .i64 f2, .slice A2 n c2] 34)).drewN m ∧ Hid (ss.take j = ts.take j)) (fun i _ => n - (intOf i).toNat)
        case atStart => exact ⟨0, 0, Nat.zero_le _, rfl, rfl, by unfold Hid; simp⟩
        case round =>
          obtain ⟨j, m, hj, rfl, rfl, HT⟩ := hrel
          by_cases hlt : j < n
          · obtain ⟨hk1, ad1, rfl, hab1, hc1, _⟩ := hS.at_ hlt
            obtain ⟨hk2, ad2, rfl, hab2, hc2, _⟩ := hT.at_ hlt
            have hcc1 : ∀ o p : Obj, ((w.alloc o).alloc p).cell? (ad1.add j) = some (.string ss[j]) := fun o p => by
              rw [World.cell?_alloc_lt _ _ _ (by rw [block_of_add]; simp; omega), World.cell?_alloc_lt _ _ _ (by rw [block_of_add]; omega)]; exact hc1
            have hcc2 : ∀ o p : Obj, ((w.alloc o).alloc p).cell? (ad2.add j) = some (.string ts[j]) := fun o p => by
              rw [World.cell?_alloc_lt _ _ _ (by rw [block_of_add]; simp; omega), World.cell?_alloc_lt _ _ _ (by rw [block_of_add]; omega)]; exact hc2
            by_cases he : ss[j] = ts[j]
            · have HE := Lib.hid he
              have hbq := beq_toList_true he
              clear he
              go_wp2
              go_quiet (fail)
              go_wp2
              go_roundw
              case rel =>
                refine ⟨j + 1, _, by omega, by go_num, by first | rfl | exact World.drewN_drewN _ _ _, ?_⟩
                unfold Hid
                rw [List.take_succ_eq_append_getElem hk1, List.take_succ_eq_append_getElem hk2, HT.out, HE.out]
              case measure => simp [intOf]; omega
            · have HF : Hid (eqSS ss ts = false) := by
                unfold Hid eqSS
                rw [decide_eq_false_iff_not]
                intro h; subst h; exact he rfl
              have hbq := beq_toList_false he
              clear he
              go_wp2
              go_quiet (fail)
              go_wp2
              go_ret
              exact ⟨ret_bool (by rw [HF.out]; rfl), bel⟩
          · have HF : Hid (eqSS ss ts = true) := by
              unfold Hid eqSS
              rw [decide_eq_true_iff]
              have h := HT.out
              rw [List.take_of_length_le (by have := HL.out; omega), List.take_of_length_le (by have := HL2.out; omega)] at h
              exact h
            go_wp2
            go_ret
            exact ⟨ret_bool (by rw [HF.out]; rfl), bel⟩
def runSteps (d f : Int) : List PStep → List ByteArray → Option (List ByteArray)
  | [], ss => some ss
  | s :: l, ss => if (stepRes true d f ss s.K s.F s.L s.T s.I s.b s.a).2 = true then runSteps d f l (stepRes true d f ss s.K s.F s.L s.T s.I s.b s.a).1 else none
def draftOk (D : PDraft) : Bool :=
  (cardOk D.d1 D.f1 D.ss1 && decide (D.st.length ≤ 40)) && match runSteps D.d1 D.f1 D.st D.ss1 with | some ss => sameCard D.d1 D.f1 D.d2 D.f2 ss D.ss2 | none => false
theorem runSteps_drop {d f : Int} {ss : List ByteArray} {l : List PStep} {k : Nat} (h : k < l.length) : runSteps d f (l.drop k) ss =
    if (stepRes true d f ss l[k].K l[k].F l[k].L l[k].T l[k].I l[k].b l[k].a).2 = true then runSteps d f (l.drop (k + 1)) (stepRes true d f ss l[k].K l[k].F l[k].L l[k].T l[k].I l[k].b l[k].a).1 else none := by
  rw [List.drop_eq_getElem_cons h]; rfl
theorem draftOk_no1 {D : PDraft} (h : cardOk D.d1 D.f1 D.ss1 = false) : draftOk D = false := by unfold draftOk; rw [h]; rfl
theorem draftOk_no2 {D : PDraft} (h : ¬ D.st.length ≤ 40) : draftOk D = false := by unfold draftOk; rw [decide_eq_false h]; simp
theorem draftOk_none {D : PDraft} (h : runSteps D.d1 D.f1 D.st D.ss1 = none) : draftOk D = false := by unfold draftOk; rw [h]; simp
theorem draftOk_some {D : PDraft} {ss : List ByteArray} (h1 : cardOk D.d1 D.f1 D.ss1 = true) (h2 : D.st.length ≤ 40) (h : runSteps D.d1 D.f1 D.st D.ss1 = some ss) : draftOk D = sameCard D.d1 D.f1 D.d2 D.f2 ss D.ss2 := by unfold draftOk; rw [h, h1, decide_eq_true h2]; rfl
set_option maxHeartbeats 6000000 in
theorem i_DraftOk (D : PDraft) (B : Nat) (A1 A2 A3 : Option Addr) (c1 c2 c3 : Nat) (w : World) (hS : RdDraft w B A1 A2 A3 D) (hB : B ≤ w.heap.size) :
    Calls Tryz.prog 69 #[.agg (draftV D A1 c1 A2 c2 A3 c3)] w fun e w' => e = .returned (.bool (draftOk D)) ∧ Below w.heap.size w w' := by
  obtain ⟨d1, f1, ss1, d2, f2, ss2, st⟩ := D
  obtain ⟨h1, h2, h3⟩ := hS
  simp only at h1 h2 h3
  have hp1 := draftOk_no1 (D := ⟨d1, f1, ss1, d2, f2, ss2, st⟩)
  have hp2 := draftOk_no2 (D := ⟨d1, f1, ss1, d2, f2, ss2, st⟩)
  have hp3 := draftOk_none (D := ⟨d1, f1, ss1, d2, f2, ss2, st⟩)
  have hp4 := fun ss => draftOk_some (D := ⟨d1, f1, ss1, d2, f2, ss2, st⟩) (ss := ss)
  simp only at hp1 hp2 hp3 hp4
  generalize hr : draftOk ⟨d1, f1, ss1, d2, f2, ss2, st⟩ = r at *
  clear hr
  unfold draftV
  simp only
  have hn1 := h1.nb
  have hn2 := h2.nb
  have hn3 := h3.nb
  cases hck : cardOk d1 f1 ss1
  · have HP := Lib.hid (hp1 hck)
    clear hp1 hp2 hp3 hp4
    go_enter Tryz.func69, Tryz.ntmps69
    go_wp2_with (first | (go_at_call 126; refine (i_CardOk _ _ _ _ _ ss1 _ ((h1.alloc hB (.cells #[.int .i64 d1, .int .i64 f1, .slice A1 ss1.length c1, .int .i64 d2, .int .i64 f2, .slice A2 ss2.length c2, .slice A3 st.length c3] 37)).more (by simp; omega))).mono ?_; rw [hck]; rintro e w1 ⟨rfl, hb1⟩; obtain ⟨hcb1, hfb1⟩ := bcell hb1; have hz_w1_0 : w.heap.size < w1.heap.size := (by have hzz := hb1.size; (try simp at hzz); omega); have hy_w1_0 := Nat.le_of_lt hz_w1_0))
    go_ret
    exact ⟨ret_bool HP.out.symm, bel⟩
  · by_cases h40 : st.length ≤ 40
    · have HP3 := hide hp3
      have HP4 := hide (hp4 · hck h40)
      clear hp1 hp2 hp3 hp4
      go_enter Tryz.func69, Tryz.ntmps69
      go_wp2_with (first | (go_at_call 126; refine (i_CardOk _ _ _ _ _ ss1 _ ((h1.alloc hB (.cells #[.int .i64 d1, .int .i64 f1, .slice A1 ss1.length c1, .int .i64 d2, .int .i64 f2, .slice A2 ss2.length c2, .slice A3 st.length c3] 37)).more (by simp; omega))).mono ?_; rw [hck]; rintro e w1 ⟨rfl, hb1⟩; obtain ⟨hcb1, hfb1⟩ := bcell hb1; have hz_w1_0 : w.heap.size < w1.heap.size := (by have hzz := hb1.size; (try simp at hzz); omega); have hy_w1_0 := Nat.le_of_lt hz_w1_0))
      have hkd := blk_next (blk_new w (.cells #[.int .i64 d1, .int .i64 f1, .slice A1 ss1.length c1, .int .i64 d2, .int .i64 f2, .slice A2 ss2.length c2, .slice A3 st.length c3] 37)) hb1
      have hw1s := hz_w1_0
      have hbW : Below w.heap.size w (w1.alloc (.cells #[.int .i64 d1, .int .i64 f1, .slice A1 ss1.length c1] 34)) := bel
      have hkn := blk_new w1 (.cells #[.int .i64 d1, .int .i64 f1, .slice A1 ss1.length c1] 34)
      have hkd2 := blk_alloc hkd (.cells #[.int .i64 d1, .int .i64 f1, .slice A1 ss1.length c1] 34)
      have hS0 : Strs (w1.alloc (.cells #[.int .i64 d1, .int .i64 f1, .slice A1 ss1.length c1] 34)) (w1.alloc (.cells #[.int .i64 d1, .int .i64 f1, .slice A1 ss1.length c1] 34)).heap.size A1 ss1.length ss1 := (((h1.alloc hB (.cells #[.int .i64 d1, .int .i64 f1, .slice A1 ss1.length c1, .int .i64 d2, .int .i64 f2, .slice A2 ss2.length c2, .slice A3 st.length c3] 37)).below (hb1.mono (by simp; omega))).alloc (by omega) (.cells #[.int .i64 d1, .int .i64 f1, .slice A1 ss1.length c1] 34)).more (by simp; omega)
      have hg4 : w1.heap.size < (w1.alloc (.cells #[.int .i64 d1, .int .i64 f1, .slice A1 ss1.length c1] 34)).heap.size := by simp
      generalize w1.alloc (.cells #[.int .i64 d1, .int .i64 f1, .slice A1 ss1.length c1] 34) = w5 at *
      have hwB : w.heap.size ≤ w5.heap.size := hbW.size
      go_loopw [23] (fun i wr => ∃ (k N : Nat) (A' : Option Addr) (c' : Nat) (sk : List ByteArray), k ≤ st.length ∧ N ≤ 16777216 ∧ i = .int .i64 k ∧ Hid (runSteps d1 f1 (st.drop k) sk = runSteps d1 f1 st ss1) ∧
          wr.heap[w1.heap.size]? = some (.cells #[.int .i64 d1, .int .i64 f1, .slice A' N c'] 34 (0, 0)) ∧ wr.heap[w.heap.size]? = some (.cells #[.int .i64 d1, .int .i64 f1, .slice A1 ss1.length c1, .int .i64 d2, .int .i64 f2, .slice A2 ss2.length c2, .slice A3 st.length c3] 37) ∧ Strs wr wr.heap.size A' N sk ∧ w5.heap.size ≤ wr.heap.size ∧ Below w.heap.size w wr) (fun i _ => st.length - (intOf i).toNat)
      case atStart => exact ⟨0, ss1.length, A1, c1, ss1, Nat.zero_le _, hn1, rfl, rfl, hkn, hkd2, hS0, Nat.le_refl _, hbW⟩
      case round =>
        obtain ⟨k, N, A', c', sk, hk, hN, rfl, HF, hblk, hkd3, hSk, hzw, hb⟩ := hrel
        obtain ⟨hx0, hx1, hx2, hxl⟩ := blk3 hblk
        obtain ⟨hd0, hd1, hd2, hd3, hd4, hd5, hd6, hdl⟩ := blk7 hkd3
        by_cases hlt : k < st.length
        · obtain ⟨hkl, ad, rfl, hab, hc0, hc1, hc2, hc3, hc4, hc5, hc6, hsb, hsa⟩ := (h3.below (hb.mono hB)).at_ hlt
          have hstep := runSteps_drop (d := d1) (f := f1) (ss := sk) (l := st) (k := k) hkl
          have HST := Lib.hid hstep
          clear hstep
          have hbo := stepRes_ok true d1 f1 sk st[k].K st[k].F st[k].L st[k].T st[k].I st[k].b st[k].a 16777216 (by have := hSk.len; omega) (by omega) hSk.sb hsb hsa
          have HBO := hide hbo
          clear hbo
          have hcon := fun (W : World) (h : Strs W wr.heap.size A' N sk) (hz : wr.heap.size ≤ W.heap.size) => i_StepOn d1 f1 wr.heap.size A' N c' sk st[k].K st[k].F st[k].L st[k].T st[k].I st[k].b st[k].a W h hz hsb hsa
          have HCON := hide hcon
          clear hcon hsb hsa
          generalize er : (stepRes true d1 f1 sk st[k].K st[k].F st[k].L st[k].T st[k].I st[k].b st[k].a).1 = sr at *
          generalize eb : (stepRes true d1 f1 sk st[k].K st[k].F st[k].L st[k].T st[k].I st[k].b st[k].a).2 = br at *
          clear er eb
          cases hbr : br
          · subst hbr
            have HP := Lib.hid (unhide HP3 (by rw [← HF.out, HST.out]; simp))
            go_wp2_with (first | (go_at_call 127; refine (unhide HCON _ (hSk.alloc (Nat.le_refl _) _) (by simp)).mono ?_; rintro e w7 ⟨A7, c7, rfl, ho7, hb7⟩; have hk7 := blk_next (blk_alloc hblk (.cells #[.int .i64 st[k].K, .int .i64 st[k].F, .int .i64 st[k].L, .int .i64 st[k].T, .int .i64 st[k].I, .string st[k].b, .string st[k].a] 65)) hb7; have hd7 := blk_next (blk_alloc hkd3 (.cells #[.int .i64 st[k].K, .int .i64 st[k].F, .int .i64 st[k].L, .int .i64 st[k].T, .int .i64 st[k].I, .string st[k].b, .string st[k].a] 65)) hb7; have hz7 := hb7.size; (try simp at hz7); obtain ⟨hv0, hv1, hv2, hvl⟩ := blk3 hk7; have hfv0 := (blk_cells hk7 0).2; have hfv1 := (blk_cells hk7 1).2; have hfv2 := (blk_cells hk7 2).2))
            go_ret
            exact ⟨ret_bool HP.out.symm, bel⟩
          · subst hbr
            have HF2 : Hid (runSteps d1 f1 (st.drop (k + 1)) sr = runSteps d1 f1 st ss1) := by unfold Hid; rw [← HF.out, HST.out]; simp
            go_wp2_with (first | (go_at_call 127; refine (unhide HCON _ (hSk.alloc (Nat.le_refl _) _) (by simp)).mono ?_; rintro e w7 ⟨A7, c7, rfl, ho7, hb7⟩; have hk7 := blk_next (blk_alloc hblk (.cells #[.int .i64 st[k].K, .int .i64 st[k].F, .int .i64 st[k].L, .int .i64 st[k].T, .int .i64 st[k].I, .string st[k].b, .string st[k].a] 65)) hb7; have hd7 := blk_next (blk_alloc hkd3 (.cells #[.int .i64 st[k].K, .int .i64 st[k].F, .int .i64 st[k].L, .int .i64 st[k].T, .int .i64 st[k].I, .string st[k].b, .string st[k].a] 65)) hb7; have hz7 := hb7.size; (try simp at hz7); obtain ⟨hv0, hv1, hv2, hvl⟩ := blk3 hk7; have hfv0 := (blk_cells hk7 0).2; have hfv1 := (blk_cells hk7 1).2; have hfv2 := (blk_cells hk7 2).2))
            have hS7 := strs_of_own ho7 (unhide HBO).1 (unhide HBO).2
            have hb7w : Below w.heap.size w w7 := bel
            have hSf : ∀ (u v x : Value) (o : Obj), Strs (((((w7.setCell ⟨w1.heap.size, 0, none⟩ u).setCell ⟨w1.heap.size, 1, none⟩ v).setCell ⟨w1.heap.size, 2, none⟩ x)).alloc o) ((((((w7.setCell ⟨w1.heap.size, 0, none⟩ u).setCell ⟨w1.heap.size, 1, none⟩ v).setCell ⟨w1.heap.size, 2, none⟩ x)).alloc o)).heap.size A7 sr.length sr := fun u v x o => strs_of_own ((own3_set ho7 hk7 (by decide) u v x).alloc o) (unhide HBO).1 (unhide HBO).2
            have HSF := hide hSf
            clear hSf
            go_roundw
            case rel => exact ⟨k + 1, sr.length, A7, c7, sr, by omega, (unhide HBO).1, by go_num, HF2, blk_alloc (blk3_set hk7 _ _ _) _, blk_alloc (blk_other3 hd7 (by omega) _ _ _) _, unhide HSF _ _ _ _, by simp [World.setCell]; omega, bel⟩
            case measure => simp [intOf]; omega
        · have hke : k = st.length := by omega
          have hd : st.drop k = [] := List.drop_eq_nil_of_le (by omega)
          have hfin : runSteps d1 f1 st ss1 = some sk := by rw [← HF.out, hd]; rfl
          have HP := Lib.hid (unhide HP4 _ hfin)
          clear hd hfin
          have hT2 := (h2.below (hb.mono hB)).more (by omega : B ≤ wr.heap.size)
          have hcon := i_SameCard d1 f1 d2 f2 wr.heap.size A' A2 N c' ss2.length c2 sk ss2
          have HCON := hide hcon
          clear hcon
          subst hke
          go_wp2_with (first | (go_at_call 128; refine (unhide HCON _ hSk hT2 (Nat.le_refl _)).mono ?_; rintro e w9 ⟨rfl, hb9⟩))
          go_ret
          exact ⟨ret_bool HP.out.symm, hb.trans (hb9.mono (by omega))⟩
    · have HP := Lib.hid (hp2 h40)
      clear hp1 hp2 hp3 hp4
      go_enter Tryz.func69, Tryz.ntmps69
      go_wp2_with (first | (go_at_call 126; refine (i_CardOk _ _ _ _ _ ss1 _ ((h1.alloc hB (.cells #[.int .i64 d1, .int .i64 f1, .slice A1 ss1.length c1, .int .i64 d2, .int .i64 f2, .slice A2 ss2.length c2, .slice A3 st.length c3] 37)).more (by simp; omega))).mono ?_; rw [hck]; rintro e w1 ⟨rfl, hb1⟩; obtain ⟨hcb1, hfb1⟩ := bcell hb1; have hz_w1_0 : w.heap.size < w1.heap.size := (by have hzz := hb1.size; (try simp at hzz); omega); have hy_w1_0 := Nat.le_of_lt hz_w1_0))
      go_ret
      exact ⟨ret_bool HP.out.symm, bel⟩
set_option maxHeartbeats 6000000 in
theorem s_DraftOk (D : PDraft) (B : Nat) (A1 A2 A3 : Option Addr) (c1 c2 c3 : Nat) (w : World) (hS : RdDraft w B A1 A2 A3 D) (hB : B ≤ w.heap.size) :
    Calls Tryz.prog 62 #[.agg (draftV D A1 c1 A2 c2 A3 c3)] w fun e w' => e = .returned (.bool (draftOk D)) ∧ Below w.heap.size w w' := by
  obtain ⟨d1, f1, ss1, d2, f2, ss2, st⟩ := D
  obtain ⟨h1, h2, h3⟩ := hS
  simp only at h1 h2 h3
  have hp1 := draftOk_no1 (D := ⟨d1, f1, ss1, d2, f2, ss2, st⟩)
  have hp2 := draftOk_no2 (D := ⟨d1, f1, ss1, d2, f2, ss2, st⟩)
  have hp3 := draftOk_none (D := ⟨d1, f1, ss1, d2, f2, ss2, st⟩)
  have hp4 := fun ss => draftOk_some (D := ⟨d1, f1, ss1, d2, f2, ss2, st⟩) (ss := ss)
  simp only at hp1 hp2 hp3 hp4
  generalize hr : draftOk ⟨d1, f1, ss1, d2, f2, ss2, st⟩ = r at *
  clear hr
  unfold draftV
  simp only
  have hn1 := h1.nb
  have hn2 := h2.nb
  have hn3 := h3.nb
  cases hck : cardOk d1 f1 ss1
  · have HP := Lib.hid (hp1 hck)
    clear hp1 hp2 hp3 hp4
    go_enter Tryz.func62, Tryz.ntmps62
    go_wp2_with (first | (go_at_call 118; refine (s_CardOk _ _ _ _ _ ss1 _ ((h1.alloc hB (.cells #[.int .i64 d1, .int .i64 f1, .slice A1 ss1.length c1, .int .i64 d2, .int .i64 f2, .slice A2 ss2.length c2, .slice A3 st.length c3] 37)).more (by simp; omega))).mono ?_; rw [hck]; rintro e w1 ⟨rfl, hb1⟩; obtain ⟨hcb1, hfb1⟩ := bcell hb1; have hz_w1_0 : w.heap.size < w1.heap.size := (by have hzz := hb1.size; (try simp at hzz); omega); have hy_w1_0 := Nat.le_of_lt hz_w1_0))
    go_ret
    exact ⟨ret_bool HP.out.symm, bel⟩
  · by_cases h40 : st.length ≤ 40
    · have HP3 := hide hp3
      have HP4 := hide (hp4 · hck h40)
      clear hp1 hp2 hp3 hp4
      go_enter Tryz.func62, Tryz.ntmps62
      go_wp2_with (first | (go_at_call 118; refine (s_CardOk _ _ _ _ _ ss1 _ ((h1.alloc hB (.cells #[.int .i64 d1, .int .i64 f1, .slice A1 ss1.length c1, .int .i64 d2, .int .i64 f2, .slice A2 ss2.length c2, .slice A3 st.length c3] 37)).more (by simp; omega))).mono ?_; rw [hck]; rintro e w1 ⟨rfl, hb1⟩; obtain ⟨hcb1, hfb1⟩ := bcell hb1; have hz_w1_0 : w.heap.size < w1.heap.size := (by have hzz := hb1.size; (try simp at hzz); omega); have hy_w1_0 := Nat.le_of_lt hz_w1_0))
      have hkd := blk_next (blk_new w (.cells #[.int .i64 d1, .int .i64 f1, .slice A1 ss1.length c1, .int .i64 d2, .int .i64 f2, .slice A2 ss2.length c2, .slice A3 st.length c3] 37)) hb1
      have hw1s := hz_w1_0
      have hbW : Below w.heap.size w (w1.alloc (.cells #[.int .i64 d1, .int .i64 f1, .slice A1 ss1.length c1] 34)) := bel
      have hkn := blk_new w1 (.cells #[.int .i64 d1, .int .i64 f1, .slice A1 ss1.length c1] 34)
      have hkd2 := blk_alloc hkd (.cells #[.int .i64 d1, .int .i64 f1, .slice A1 ss1.length c1] 34)
      have hS0 : Strs (w1.alloc (.cells #[.int .i64 d1, .int .i64 f1, .slice A1 ss1.length c1] 34)) (w1.alloc (.cells #[.int .i64 d1, .int .i64 f1, .slice A1 ss1.length c1] 34)).heap.size A1 ss1.length ss1 := (((h1.alloc hB (.cells #[.int .i64 d1, .int .i64 f1, .slice A1 ss1.length c1, .int .i64 d2, .int .i64 f2, .slice A2 ss2.length c2, .slice A3 st.length c3] 37)).below (hb1.mono (by simp; omega))).alloc (by omega) (.cells #[.int .i64 d1, .int .i64 f1, .slice A1 ss1.length c1] 34)).more (by simp; omega)
      have hg4 : w1.heap.size < (w1.alloc (.cells #[.int .i64 d1, .int .i64 f1, .slice A1 ss1.length c1] 34)).heap.size := by simp
      generalize w1.alloc (.cells #[.int .i64 d1, .int .i64 f1, .slice A1 ss1.length c1] 34) = w5 at *
      have hwB : w.heap.size ≤ w5.heap.size := hbW.size
      go_loopw [4] (fun i wr => ∃ (k N : Nat) (A' : Option Addr) (c' : Nat) (sk : List ByteArray), k ≤ st.length ∧ N ≤ 16777216 ∧ i = .int .i64 k ∧ Hid (runSteps d1 f1 (st.drop k) sk = runSteps d1 f1 st ss1) ∧
          wr.heap[w1.heap.size]? = some (.cells #[.int .i64 d1, .int .i64 f1, .slice A' N c'] 34 (0, 0)) ∧ wr.heap[w.heap.size]? = some (.cells #[.int .i64 d1, .int .i64 f1, .slice A1 ss1.length c1, .int .i64 d2, .int .i64 f2, .slice A2 ss2.length c2, .slice A3 st.length c3] 37) ∧ Strs wr wr.heap.size A' N sk ∧ w5.heap.size ≤ wr.heap.size ∧ Below w.heap.size w wr) (fun i _ => st.length - (intOf i).toNat)
      case atStart => exact ⟨0, ss1.length, A1, c1, ss1, Nat.zero_le _, hn1, rfl, rfl, hkn, hkd2, hS0, Nat.le_refl _, hbW⟩
      case round =>
        obtain ⟨k, N, A', c', sk, hk, hN, rfl, HF, hblk, hkd3, hSk, hzw, hb⟩ := hrel
        obtain ⟨hx0, hx1, hx2, hxl⟩ := blk3 hblk
        obtain ⟨hd0, hd1, hd2, hd3, hd4, hd5, hd6, hdl⟩ := blk7 hkd3
        by_cases hlt : k < st.length
        · obtain ⟨hkl, ad, rfl, hab, hc0, hc1, hc2, hc3, hc4, hc5, hc6, hsb, hsa⟩ := (h3.below (hb.mono hB)).at_ hlt
          have hstep := runSteps_drop (d := d1) (f := f1) (ss := sk) (l := st) (k := k) hkl
          have HST := Lib.hid hstep
          clear hstep
          have hbo := stepRes_ok true d1 f1 sk st[k].K st[k].F st[k].L st[k].T st[k].I st[k].b st[k].a 16777216 (by have := hSk.len; omega) (by omega) hSk.sb hsb hsa
          have HBO := hide hbo
          clear hbo
          have hcon := fun (W : World) (h : Strs W wr.heap.size A' N sk) (hz : wr.heap.size ≤ W.heap.size) => s_StepOn d1 f1 wr.heap.size A' N c' sk st[k].K st[k].F st[k].L st[k].T st[k].I st[k].b st[k].a W h hz hsb hsa
          have HCON := hide hcon
          clear hcon hsb hsa
          generalize er : (stepRes true d1 f1 sk st[k].K st[k].F st[k].L st[k].T st[k].I st[k].b st[k].a).1 = sr at *
          generalize eb : (stepRes true d1 f1 sk st[k].K st[k].F st[k].L st[k].T st[k].I st[k].b st[k].a).2 = br at *
          clear er eb
          cases hbr : br
          · subst hbr
            have HP := Lib.hid (unhide HP3 (by rw [← HF.out, HST.out]; simp))
            go_upto_region 7 with fail
            go_cut [5, 6] (fun s5 s6 wx => ∃ (g9 : Nat) (A7 : Option Addr) (c7 : Nat), s5 = .pointer (some ⟨g9, 0, none⟩) ∧ s6 = .bool false ∧ wx.heap[g9]? = some (.cells #[.int .i64 d1, .int .i64 f1, .slice A7 sr.length c7] 34 (0, 0)) ∧ wx.ownsRow wr.heap.size 9 1 (.slice A7 sr.length c7) sr.length (sr.map Value.string) ∧ wr.heap.size ≤ g9 ∧ Below wr.heap.size wr wx)
            case first =>
              have hq1 : (ad.add (k * 7)).block < wr.heap.size := by rw [block_of_add]; omega
              go_region_held3 (fun W => (∀ p : Addr, p.block < wr.heap.size → W.cell? p = (wr).cell? p) ∧ (∀ p : Addr, p.block < wr.heap.size → W.frozen? p = (wr).frozen? p) ∧ Below (wr.heap.size) (wr) W) (exact keep_ofP bel) ((go_at_call 119; have hq := (‹_ ∧ _ ∧ Below _ _ _›).2.2; refine (unhide HCON _ (hSk.below hq) hq.size).mono ?_; rintro e w7 ⟨A7, c7, rfl, ho7r, hb7⟩; (have ho7 := own_base (base' := wr.heap.size) ho7r (by first | exact hq.size | exact Nat.le_refl _)); clear ho7r; have hqs := hq.size; have hbs := hb7.size; (try simp at hqs); (try simp at hbs); obtain ⟨hcb7, hfb7⟩ := bcell hb7; (try (have hzl : wr.heap.size < w7.heap.size := (by omega)))))
              all_goals (go_wp2_with fail)
              all_goals (go_meet)
              all_goals (
                refine ⟨_, A7, c7, rfl, rfl, ?_, ?_, ?_, ?_⟩
                first
                  | exact blk_new _ _
                  | exact blk3_set (by first | exact blk_next (blk_new _ _) hb7 | exact blk_next (blk_drew (blk_new _ _)) hb7) _ _ _
                first
                  | exact ho7.alloc _
                  | exact own3_set ho7 (by first | exact blk_next (blk_new _ _) hb7 | exact blk_next (blk_drew (blk_new _ _)) hb7) (by decide) _ _ _
                first
                  | exact Nat.le_refl _
                  | omega
                exact bel)
            obtain ⟨g9, A7, c7, rfl, rfl, hk9, ho9, hg9, hb9⟩ := hcut
            obtain ⟨w7, hwc⟩ : ∃ W, W = wc := ⟨_, rfl⟩
            subst hwc
            have hk7 := blk_next hblk hb9
            have hd7 := blk_next hkd3 hb9
            have hz7 := hb9.size
            obtain ⟨hv0, hv1, hv2, hvl⟩ := blk3 hk7
            have hfv0 := (blk_cells hk7 0).2
            have hfv1 := (blk_cells hk7 1).2
            have hfv2 := (blk_cells hk7 2).2
            obtain ⟨hg0, hg1, hg2, hgl⟩ := blk3 hk9
            have hb7w : Below w.heap.size w w7 := hb.trans (hb9.mono (by omega))
            clear hx0 hx1 hx2 hxl hd0 hd1 hd2 hd3 hd4 hd5 hd6 hdl
            go_wp2
            go_ret
            exact ⟨ret_bool HP.out.symm, hb7w⟩
          · subst hbr
            have HF2 : Hid (runSteps d1 f1 (st.drop (k + 1)) sr = runSteps d1 f1 st ss1) := by unfold Hid; rw [← HF.out, HST.out]; simp
            go_upto_region 7 with fail
            go_cut [5, 6] (fun s5 s6 wx => ∃ (g9 : Nat) (A7 : Option Addr) (c7 : Nat), s5 = .pointer (some ⟨g9, 0, none⟩) ∧ s6 = .bool true ∧ wx.heap[g9]? = some (.cells #[.int .i64 d1, .int .i64 f1, .slice A7 sr.length c7] 34 (0, 0)) ∧ wx.ownsRow wr.heap.size 9 1 (.slice A7 sr.length c7) sr.length (sr.map Value.string) ∧ wr.heap.size ≤ g9 ∧ Below wr.heap.size wr wx)
            case first =>
              have hq1 : (ad.add (k * 7)).block < wr.heap.size := by rw [block_of_add]; omega
              go_region_held3 (fun W => (∀ p : Addr, p.block < wr.heap.size → W.cell? p = (wr).cell? p) ∧ (∀ p : Addr, p.block < wr.heap.size → W.frozen? p = (wr).frozen? p) ∧ Below (wr.heap.size) (wr) W) (exact keep_ofP bel) ((go_at_call 119; have hq := (‹_ ∧ _ ∧ Below _ _ _›).2.2; refine (unhide HCON _ (hSk.below hq) hq.size).mono ?_; rintro e w7 ⟨A7, c7, rfl, ho7r, hb7⟩; (have ho7 := own_base (base' := wr.heap.size) ho7r (by first | exact hq.size | exact Nat.le_refl _)); clear ho7r; have hqs := hq.size; have hbs := hb7.size; (try simp at hqs); (try simp at hbs); obtain ⟨hcb7, hfb7⟩ := bcell hb7; (try (have hzl : wr.heap.size < w7.heap.size := (by omega)))))
              all_goals (go_wp2_with fail)
              all_goals (go_meet)
              all_goals (
                refine ⟨_, A7, c7, rfl, rfl, ?_, ?_, ?_, ?_⟩
                first
                  | exact blk_new _ _
                  | exact blk3_set (by first | exact blk_next (blk_new _ _) hb7 | exact blk_next (blk_drew (blk_new _ _)) hb7) _ _ _
                first
                  | exact ho7.alloc _
                  | exact own3_set ho7 (by first | exact blk_next (blk_new _ _) hb7 | exact blk_next (blk_drew (blk_new _ _)) hb7) (by decide) _ _ _
                first
                  | exact Nat.le_refl _
                  | omega
                exact bel)
            obtain ⟨g9, A7, c7, rfl, rfl, hk9, ho9, hg9, hb9⟩ := hcut
            obtain ⟨w7, hwc⟩ : ∃ W, W = wc := ⟨_, rfl⟩
            subst hwc
            have hk7 := blk_next hblk hb9
            have hd7 := blk_next hkd3 hb9
            have hz7 := hb9.size
            obtain ⟨hv0, hv1, hv2, hvl⟩ := blk3 hk7
            have hfv0 := (blk_cells hk7 0).2
            have hfv1 := (blk_cells hk7 1).2
            have hfv2 := (blk_cells hk7 2).2
            obtain ⟨hg0, hg1, hg2, hgl⟩ := blk3 hk9
            have hb7w : Below w.heap.size w w7 := hb.trans (hb9.mono (by omega))
            clear hx0 hx1 hx2 hxl hd0 hd1 hd2 hd3 hd4 hd5 hd6 hdl
            go_wp2
            have hSf : ∀ (u v x : Value), Strs (((w7.setCell ⟨w1.heap.size, 0, none⟩ u).setCell ⟨w1.heap.size, 1, none⟩ v).setCell ⟨w1.heap.size, 2, none⟩ x) (((w7.setCell ⟨w1.heap.size, 0, none⟩ u).setCell ⟨w1.heap.size, 1, none⟩ v).setCell ⟨w1.heap.size, 2, none⟩ x).heap.size A7 sr.length sr := fun u v x => strs_of_own (own3_set ho9 hk7 (by decide) u v x) (unhide HBO).1 (unhide HBO).2
            have HSF := hide hSf
            clear hSf
            go_roundw
            case rel => exact ⟨k + 1, sr.length, A7, c7, sr, by omega, (unhide HBO).1, by go_num, HF2, blk3_set hk7 _ _ _, blk_other3 hd7 (by omega) _ _ _, unhide HSF _ _ _, by simp [World.setCell]; omega, bel⟩
            case measure => simp [intOf]; omega
        · have hke : k = st.length := by omega
          have hd : st.drop k = [] := List.drop_eq_nil_of_le (by omega)
          have hfin : runSteps d1 f1 st ss1 = some sk := by rw [← HF.out, hd]; rfl
          have HP := Lib.hid (unhide HP4 _ hfin)
          clear hd hfin
          have hT2 := (h2.below (hb.mono hB)).more (by omega : B ≤ wr.heap.size)
          have hcon := s_SameCard d1 f1 d2 f2 wr.heap.size A' A2 N c' ss2.length c2 sk ss2
          have HCON := hide hcon
          clear hcon
          subst hke
          go_wp2_with (first | (go_at_call 120; refine (unhide HCON _ hSk hT2 (Nat.le_refl _)).mono ?_; rintro e w9 ⟨rfl, hb9⟩))
          go_ret
          exact ⟨ret_bool HP.out.symm, hb.trans (hb9.mono (by omega))⟩
    · have HP := Lib.hid (hp2 h40)
      clear hp1 hp2 hp3 hp4
      go_enter Tryz.func62, Tryz.ntmps62
      go_wp2_with (first | (go_at_call 118; refine (s_CardOk _ _ _ _ _ ss1 _ ((h1.alloc hB (.cells #[.int .i64 d1, .int .i64 f1, .slice A1 ss1.length c1, .int .i64 d2, .int .i64 f2, .slice A2 ss2.length c2, .slice A3 st.length c3] 37)).more (by simp; omega))).mono ?_; rw [hck]; rintro e w1 ⟨rfl, hb1⟩; obtain ⟨hcb1, hfb1⟩ := bcell hb1; have hz_w1_0 : w.heap.size < w1.heap.size := (by have hzz := hb1.size; (try simp at hzz); omega); have hy_w1_0 := Nat.le_of_lt hz_w1_0))
      go_ret
      exact ⟨ret_bool HP.out.symm, bel⟩
end Go.Proofs.YtdddglihomchfaaGreat
namespace Go.Proofs.YtdddglihomchfaaGreat
open Go.ChangeShapes Go.WideShapes Go.ChangeAt Go.RowKit
set_option linter.unusedVariables false
set_option maxRecDepth 10000
def nmB (b : UInt8) : Bool := decide (97 ≤ b.toNat) && decide (b.toNat ≤ 122)
def nameOk (s : ByteArray) : Bool := s.data.toList.all nmB && inB s.size 1 12
theorem nameOk_no {s : ByteArray} {k : Nat} (hk : k < s.size) (h : nmB s[k] = false) : nameOk s = false := by
  have : s.data.toList.all nmB = false := by
    rw [List.all_eq_false]
    refine ⟨s[k], ?_, by simp [h]⟩
    have : s[k] = s.data.toList[k]'(by simpa using hk) := rfl
    rw [this]; exact List.getElem_mem _
  unfold nameOk; rw [this]; rfl
set_option maxHeartbeats 800000 in
theorem i_NameOk (s : ByteArray) (w : World) (hs : s.size ≤ 16777216) :
    Calls Tryz.prog 129 #[.string s] w fun e w' => e = .returned (.bool (nameOk s)) ∧ w = w' := by
  go_enter Tryz.func129, Tryz.ntmps129
  go_wp2
  go_loop [3, 6] (fun x i => ∃ k : Nat, k ≤ s.size ∧ i = .int .i64 k ∧ (s.data.toList.take k).all nmB = true) (fun _ i => s.size - (intOf i).toNat)
  case atStart => exact ⟨0, Nat.zero_le _, rfl, by simp⟩
  case round =>
    obtain ⟨k, hk, rfl, hall⟩ := hrel
    by_cases hlt : k < s.size
    · have HT := Lib.hid (take_snoc s k hlt)
      by_cases h1 : s[k].toNat < 97
      · have HF := Lib.hid (nameOk_no hlt (by unfold nmB; rw [decide_eq_false (by omega)]; rfl))
        go_wp2
        go_ret
        exact ⟨ret_bool HF.out.symm, rfl⟩
      · by_cases h2 : 122 < s[k].toNat
        · have HF := Lib.hid (nameOk_no hlt (by unfold nmB; rw [decide_eq_true (by omega), decide_eq_false (by omega)]; rfl))
          go_wp2
          go_ret
          exact ⟨ret_bool HF.out.symm, rfl⟩
        · go_wp2
          go_round
          case rel => exact ⟨k + 1, by omega, by go_num, by rw [HT.out, List.all_append, hall]; simp [nmB]; omega⟩
          case measure => simp [intOf]; omega
    · have hke : k = s.size := by omega
      have HF : Hid (nameOk s = inB s.size 1 12) := by
        unfold Hid nameOk
        rw [List.take_of_length_le (by simp; omega)] at hall
        rw [hall]; rfl
      clear hall hke
      go_wp2_with (go_at_call 72; refine (i_within _ _ _ _).mono ?_; rintro e w' ⟨rfl, rfl⟩)
      go_ret
      exact ⟨ret_bool HF.out.symm, rfl⟩
set_option maxHeartbeats 800000 in
theorem s_NameOk (s : ByteArray) (w : World) (hs : s.size ≤ 16777216) :
    Calls Tryz.prog 121 #[.string s] w fun e w' => e = .returned (.bool (nameOk s)) ∧ w = w' := by
  go_enter Tryz.func121, Tryz.ntmps121
  go_wp2
  go_loop [3] (fun i => ∃ k : Nat, k ≤ s.size ∧ i = .int .i64 k ∧ (s.data.toList.take k).all nmB = true) (fun i => s.size - (intOf i).toNat)
  case atStart => exact ⟨0, Nat.zero_le _, rfl, by simp⟩
  case round =>
    obtain ⟨k, hk, rfl, hall⟩ := hrel
    by_cases hlt : k < s.size
    · have HT := Lib.hid (take_snoc s k hlt)
      by_cases h1 : s[k].toNat < 97
      · have HF := Lib.hid (nameOk_no hlt (by unfold nmB; rw [decide_eq_false (by omega)]; rfl))
        go_wp2
        go_ret
        exact ⟨ret_bool HF.out.symm, rfl⟩
      · by_cases h2 : 122 < s[k].toNat
        · have HF := Lib.hid (nameOk_no hlt (by unfold nmB; rw [decide_eq_true (by omega), decide_eq_false (by omega)]; rfl))
          go_wp2
          go_ret
          exact ⟨ret_bool HF.out.symm, rfl⟩
        · go_wp2
          go_round
          case rel => exact ⟨k + 1, by omega, by go_num, by rw [HT.out, List.all_append, hall]; simp [nmB]; omega⟩
          case measure => simp [intOf]; omega
    · have hke : k = s.size := by omega
      have HF : Hid (nameOk s = inB s.size 1 12) := by
        unfold Hid nameOk
        rw [List.take_of_length_le (by simp; omega)] at hall
        rw [hall]; rfl
      clear hall hke
      go_wp2_with (go_at_call 65; refine (s_l01In _ _ _ _).mono ?_; rintro e w' ⟨rfl, rfl⟩)
      go_ret
      exact ⟨ret_bool HF.out.symm, rfl⟩
def nmLe (a b : ByteArray) : Bool := Op.bytesLess a.toList b.toList || a.toList == b.toList
def itGood (P : List PItem) (i : Nat) : Bool :=
  match P[i]? with
  | none => true
  | some x => (nameOk x.nm && cardOk x.d x.f x.ss) && (decide (i = 0) || match P[i - 1]? with | none => true | some y => !nmLe x.nm y.nm)
def catOk (P : List PItem) : Bool := (List.range P.length).all (itGood P) && decide (P.length ≤ 20)
theorem catOk_no {P : List PItem} {k : Nat} (hk : k < P.length) (h : itGood P k = false) : catOk P = false := by
  have : (List.range P.length).all (itGood P) = false := by
    rw [List.all_eq_false]; exact ⟨k, by simpa using hk, by simp [h]⟩
  unfold catOk; rw [this]; rfl
theorem itGood_0 {P : List PItem} {x : PItem} (h : P[0]? = some x) : itGood P 0 = (nameOk x.nm && cardOk x.d x.f x.ss) := by unfold itGood; rw [h]; simp
theorem itGood_s {P : List PItem} {k : Nat} {x y : PItem} (h : P[k + 1]? = some x) (h2 : P[k]? = some y) : itGood P (k + 1) = ((nameOk x.nm && cardOk x.d x.f x.ss) && !nmLe x.nm y.nm) := by
  unfold itGood; rw [h]; simp [h2]
theorem all_range_succ {f : Nat → Bool} {k : Nat} (h : (List.range k).all f = true) (h2 : f k = true) : (List.range (k + 1)).all f = true := by
  rw [List.range_succ, List.all_append, h]; simp [h2]
theorem plI_at {L : List RItem} {k : Nat} (hk : k < L.length) : (plI L)[k]? = some L[k].x := by simp [plI, hk]
end Go.Proofs.YtdddglihomchfaaGreat
