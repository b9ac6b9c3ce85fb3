/- The contracts of boxed (with LowerAt, with RaiseAt), AddBox and TakeBox of the program. -/
import Derived.Test.YteffbjddgdjkmaaBox1
import Derived.Test.YteffbjddgdjkmaaLawKit
namespace Go.Proofs.Yteffbjddgdjkmaa
open Go.ChangeShapes Go.WideShapes Go.ChangeAt Go.RowKit
set_option linter.unusedVariables false
set_option maxRecDepth 10000

theorem flips_stepK (at_ : Int) (ss : List ByteArray) (F K : Nat) (hF : F ≤ K) (h : K < ss.length) : (flips at_ ss F (K - F)).set K (swapB ss[K] at_) = flips at_ ss F (K + 1 - F) := by
  obtain ⟨j, rfl⟩ : ∃ j, K = F + j := ⟨K - F, by omega⟩
  rw [show F + j - F = j by omega, show F + j + 1 - F = j + 1 by omega]
  exact flips_step at_ ss F j h
theorem allC_stepK {c : UInt8} {at_ : Int} {ss : List ByteArray} {F K : Nat} (hF : F ≤ K) (h : K < ss.length) (ha : allC c at_ ss F (K - F) = true) (hc : cornerB c ss[K] at_ = true) : allC c at_ ss F (K + 1 - F) = true := by
  obtain ⟨j, rfl⟩ : ∃ j, K = F + j := ⟨K - F, by omega⟩
  rw [show F + j - F = j by omega] at ha
  rw [show F + j + 1 - F = j + 1 by omega, allC_step c at_ ss F j h, ha, hc]; rfl
theorem allC_stopK {c : UInt8} {at_ : Int} {ss : List ByteArray} {F K m : Nat} (hF : F ≤ K) (h : K < ss.length) (hm : K < m) (hc : cornerB c ss[K] at_ = false) : allC c at_ ss F (m - F) = false := by
  obtain ⟨j, rfl⟩ : ∃ j, K = F + j := ⟨K - F, by omega⟩
  exact allC_stop h (by omega) hc
theorem boxRes_no {c : UInt8} {d f : Int} {ss : List ByteArray} {F L at_ : Int} (h : boxOk d f ss ss.length F L = false) : boxRes c d f ss F L at_ = (ss, false) := by
  unfold boxRes; rw [if_neg (by rw [h]; simp)]
theorem boxRes_stop {c : UInt8} {d f : Int} {ss : List ByteArray} {F L : Nat} {at_ : Int} (h : allC c at_ ss F (L + 1 - F) = false) : boxRes c d f ss F L at_ = (ss, false) := by
  unfold boxRes; simp only [Int.toNat_natCast]; rw [if_neg (by rw [h]; simp)]
theorem boxRes_yes {c : UInt8} {d f : Int} {ss : List ByteArray} {F L : Nat} {at_ : Int} (h0 : boxOk d f ss ss.length F L = true) (h : allC c at_ ss F (L + 1 - F) = true) : boxRes c d f ss F L at_ = (flips at_ ss F (L + 1 - F), true) := by
  unfold boxRes; simp only [Int.toNat_natCast]; rw [if_pos ⟨h0, h⟩]
theorem boxOk_iff {d f : Int} {ss : List ByteArray} {n : Nat} {F L : Int} (h : boxOk d f ss n F L = true) : 0 ≤ F ∧ F ≤ L ∧ L < (n : Int) := by
  unfold boxOk at h
  simp only [Bool.and_eq_true, inB_iff, decide_eq_true_eq] at h
  omega
theorem Strs.grown {w w' : World} {B n g : Nat} {A : Option Addr} {ss : List ByteArray} (h : Strs w B A n ss) (hg : w.grownBy w' (some g)) (hB : B ≤ g) (hw : B ≤ w.heap.size) : Strs w' B A n ss :=
  h.keep fun p hp => World.cell?_of_block (hg.block p.block (by omega) (by intro e; injection e; omega))

set_option maxHeartbeats 1600000 in
theorem i_boxed_LowerAt (d f : Int) (B : Nat) (A : Option Addr) (n c : Nat) (ss : List ByteArray) (F L T : Int) (w : World) (hS : Strs w B A n ss) (hB : B ≤ w.heap.size) :
    Calls Try.prog 123 #[.agg #[.int .i64 d, .int .i64 f, .slice A n c], .agg #[.int .i64 F, .int .i64 L, .int .i64 T], .func (.func 125) #[] #[]] w (FreshCardB w.heap.size d f (boxRes 102 d f ss F L T).1 (boxRes 102 d f ss F L T).2 w) := by
  have hn := hS.nb
  have hl := hS.len
  have hS2 := ((hS.alloc hB (.cells #[.int .i64 d, .int .i64 f, .slice A n c] 26)).alloc (by simp; omega) (.cells #[.int .i64 F, .int .i64 L, .int .i64 T] 35)).alloc (by simp; omega) (.cells #[.int .i64 0, .int .i64 0, .slice none 0 0] 26)
  have hsr := hS2.rd
  have HL := Lib.hid hl
  cases hh : boxOk d f ss n F L
  · have HP := Lib.hid (boxRes_no (c := 102) (at_ := T) (show boxOk d f ss ss.length F L = false by rw [hl]; exact hh))
    clear hl
    go_enter Try.func123, Try.ntmps123
    go_wp2_with (first | (go_at_call 173; refine (i_hasBox _ _ B _ _ _ ss _ _ _ _ hS2 (by simp; omega)).mono ?_; rw [hh]; rintro e w1 ⟨rfl, hb1⟩; obtain ⟨hcb, hfb⟩ := bcell hb1; have hz_w1_0 : w.heap.size < w1.heap.size := (by have hzz := hb1.size; (try simp at hzz); omega); have hy_w1_0 := Nat.le_of_lt hz_w1_0; have hz_w1_1 : w.heap.size + 1 < w1.heap.size := (by have hzz := hb1.size; (try simp at hzz); omega); have hy_w1_1 := Nat.le_of_lt hz_w1_1; have hz_w1_2 : w.heap.size + 1 + 1 < w1.heap.size := (by have hzz := hb1.size; (try simp at hzz); omega); have hy_w1_2 := Nat.le_of_lt hz_w1_2; have hS3 := hS2.below (hb1.mono (by simp; omega))) | (go_at_call 94; refine (i_copied _ _ B _ _ _ ss _ hS3 (by omega)).mono ?_; rintro e w2 ⟨A1, c1, rfl, ho2, hb2⟩; obtain ⟨hcb2, hfb2⟩ := bcell hb2; have hz_w2_0 : w.heap.size < w2.heap.size := (by have hzz := hb2.size; (try simp at hzz); omega); have hy_w2_0 := Nat.le_of_lt hz_w2_0; have hz_w2_1 : w.heap.size + 1 < w2.heap.size := (by have hzz := hb2.size; (try simp at hzz); omega); have hy_w2_1 := Nat.le_of_lt hz_w2_1; have hz_w2_2 : w.heap.size + 1 + 1 < w2.heap.size := (by have hzz := hb2.size; (try simp at hzz); omega); have hy_w2_2 := Nat.le_of_lt hz_w2_2))
    refine bodyPost_ret (v := .tuple #[.agg #[.int .i64 d, .int .i64 f, .slice A1 ss.length c1], .bool false]) (by simp [results, Try.results123, go_sem, *]) rfl ?_
    rw [HP.out]
    exact ⟨A1, c1, rfl, own_up ho2 upr (by first | exact Nat.le_refl _ | (simp; done) | omega | (simp; omega) | exact (‹_ ∧ _ ∧ Below _ _ _›).2.2.size), bel⟩
  · obtain ⟨hF0, hFL, hLn⟩ := boxOk_iff hh
    obtain ⟨F, rfl⟩ := Int.eq_ofNat_of_zero_le hF0
    obtain ⟨L, rfl⟩ := Int.eq_ofNat_of_zero_le (show 0 ≤ L by omega)
    have hFL' : F ≤ L := by omega
    have hLn' : L < n := by omega
    have HH := Lib.hid (show boxOk d f ss ss.length F L = true by rw [hl]; exact hh)
    clear hl hF0 hFL hLn hsr
    go_enter Try.func123, Try.ntmps123
    go_wp2_with (first | (go_at_call 173; refine (i_hasBox _ _ B _ _ _ ss _ _ _ _ hS2 (by simp; omega)).mono ?_; rw [hh]; rintro e w1 ⟨rfl, hb1⟩; obtain ⟨hcb, hfb⟩ := bcell hb1; have hz_w1_0 : w.heap.size < w1.heap.size := (by have hzz := hb1.size; (try simp at hzz); omega); have hy_w1_0 := Nat.le_of_lt hz_w1_0; have hz_w1_1 : w.heap.size + 1 < w1.heap.size := (by have hzz := hb1.size; (try simp at hzz); omega); have hy_w1_1 := Nat.le_of_lt hz_w1_1; have hz_w1_2 : w.heap.size + 1 + 1 < w1.heap.size := (by have hzz := hb1.size; (try simp at hzz); omega); have hy_w1_2 := Nat.le_of_lt hz_w1_2; have hS3 := hS2.below (hb1.mono (by simp; omega))) | (go_at_call 94; refine (i_copied _ _ B _ _ _ ss _ hS3 (by omega)).mono ?_; rintro e w2 ⟨A1, c1, rfl, ho2, hb2⟩; obtain ⟨hcb2, hfb2⟩ := bcell hb2; have hz_w2_0 : w.heap.size < w2.heap.size := (by have hzz := hb2.size; (try simp at hzz); omega); have hy_w2_0 := Nat.le_of_lt hz_w2_0; have hz_w2_1 : w.heap.size + 1 < w2.heap.size := (by have hzz := hb2.size; (try simp at hzz); omega); have hy_w2_1 := Nat.le_of_lt hz_w2_1; have hz_w2_2 : w.heap.size + 1 + 1 < w2.heap.size := (by have hzz := hb2.size; (try simp at hzz); omega); have hy_w2_2 := Nat.le_of_lt hz_w2_2; (have hnl : 0 < ss.length := (by have := HL.out; omega)); obtain ⟨g, cap, hv, hbg, hglt⟩ := ho2.form hnl; (have hA : A1 = some ⟨g, 0, none⟩ := (by injection hv)); subst hA; clear hv; have hS4 := hS3.below (hb2.mono (by omega))))
    have ho3 := ho2.alloc (.cells #[.int .i64 d, .int .i64 f, .slice (some ⟨g, 0, none⟩) ss.length c1] 26)
    have hbA : Below w2.heap.size w2 (w2.alloc (.cells #[.int .i64 d, .int .i64 f, .slice (some ⟨g, 0, none⟩) ss.length c1] 26)) := bel
    have hko : (w2.alloc (.cells #[.int .i64 d, .int .i64 f, .slice (some ⟨g, 0, none⟩) ss.length c1] 26)).heap[w2.heap.size]? = some (.cells #[.int .i64 d, .int .i64 f, .slice (some ⟨g, 0, none⟩) ss.length c1] 26) := blk_new w2 (.cells #[.int .i64 d, .int .i64 f, .slice (some ⟨g, 0, none⟩) ss.length c1] 26)
    have hb3 : Below w.heap.size w (w2.alloc (.cells #[.int .i64 d, .int .i64 f, .slice (some ⟨g, 0, none⟩) ss.length c1] 26)) := bel
    have hS5 := hS4.below (hbA.mono (by omega))
    have hwg : w.heap.size ≤ g := by omega
    have hBg : B ≤ g := by omega
    have hge_g : w.heap.size + 3 ≤ g := (by have hzz := hbg; (try simp at hzz); omega); have hne_g_0 : g ≠ w.heap.size := (by have hzz := hbg; (try simp at hzz); omega); have hne2_g_0 := Ne.symm hne_g_0; have hne_g_1 : g ≠ w.heap.size + 1 := (by have hzz := hbg; (try simp at hzz); omega); have hne2_g_1 := Ne.symm hne_g_1; have hne_g_2 : g ≠ w.heap.size + 1 + 1 := (by have hzz := hbg; (try simp at hzz); omega); have hne2_g_2 := Ne.symm hne_g_2
    go_loopw [9, 10, 11] (fun kk _ _ wr => ∃ K : Nat, F ≤ K ∧ K ≤ L + 1 ∧ kk = .int .i64 K ∧ Hid (allC 102 T ss F (K - F) = true) ∧ wr.ownsRow w1.heap.size 9 1 (.slice (some ⟨g, 0, none⟩) ss.length c1) ss.length ((flips T ss F (K - F)).map Value.string) ∧ (w2.alloc (.cells #[.int .i64 d, .int .i64 f, .slice (some ⟨g, 0, none⟩) ss.length c1] 26)).grownBy wr (some g)) (fun kk _ _ _ => L + 1 - (intOf kk).toNat)
    case atStart => exact ⟨F, Nat.le_refl _, by omega, rfl, by rw [Nat.sub_self]; exact allC_zero _ _ _ _, by rw [Nat.sub_self, flips_zero]; exact ho3, World.grownBy.refl _ _⟩
    case round =>
      obtain ⟨K, hFK, hKL, rfl, HA, hown, hg⟩ := hrel
      have hbr : Below w.heap.size w wr := only_below_B hb3 hg hwg
      have hSr := hS5.grown hg hBg (by simp; omega)
      have hzr : w2.heap.size + 1 ≤ wr.heap.size := by have := hg.size; simpa using this
      obtain ⟨hx0, hx1, hx2, hxl⟩ := blk3 ((hg.block w2.heap.size (by simp) (by intro e; injection e; omega)).trans hko)
      have hcb3 : ∀ b o, b < w2.heap.size → b ≠ g → wr.cell? ⟨b, o, none⟩ = w2.cell? ⟨b, o, none⟩ := fun b o h hne => ((gcell hg).1 b o (by simp; omega) hne).trans ((bcell hbA).1 b o h)
      have hfb3 : ∀ b o, b < w2.heap.size → b ≠ g → wr.frozen? ⟨b, o, none⟩ = w2.frozen? ⟨b, o, none⟩ := fun b o h hne => ((gcell hg).2 b o (by simp; omega) hne).trans ((bcell hbA).2 b o h)
      have hz0 : w.heap.size < wr.heap.size := by omega
      have hz1 : w.heap.size + 1 < wr.heap.size := by omega
      have hz2 : w.heap.size + 1 + 1 < wr.heap.size := by omega
      by_cases hlt : K ≤ L
      · obtain ⟨hKs, ad, hAad, hab, hx, hsz⟩ := hSr.at_ (k := K) (by omega)
        subst hAad
        have hKn : K < n := by omega
        have hKl : K < ss.length := hKs
        have hq : ∀ W : World, Calls Try.prog 125 #[.string ss[K], .int .i64 T] W fun e w' => e = .returned (.tuple #[.string (turnRes 102 ss[K] T), .bool (cornerB 102 ss[K] T)]) ∧ ∃ m, w' = W.drewN m := fun W => i_LowerAt _ _ W hsz
        cases hcc : cornerB 102 ss[K] T
        · rw [hcc] at hq
          have HQ := hide hq
          clear hq
          have HP := Lib.hid (boxRes_stop (d := d) (f := f) (L := L) (allC_stopK (m := L + 1) hFK hKs (by omega) hcc))
          clear hcc
          go_wp2
          go_quiet ((go_at_call 125; first | exact quiet_ex (unhide HQ _) | exact quiet_add (unhide HQ _)))
          go_wp2_with (go_at_call 94; refine (i_copied _ _ B _ _ _ ss _ (hSr.drewN _) (by simp; omega)).mono ?_; rintro e w4 ⟨A4, c4, rfl, ho4, hb4'⟩; (have hb4 : Below wr.heap.size wr w4 := ⟨hb4'.os, hb4'.tape, hb4'.output, hb4'.size, hb4'.block⟩); clear hb4'; obtain ⟨hcb4, hfb4⟩ := bcell hb4; have hz_w4_0 : w.heap.size < w4.heap.size := (by have hzz := hb4.size; (try simp at hzz); omega); have hy_w4_0 := Nat.le_of_lt hz_w4_0; have hz_w4_1 : w.heap.size + 1 < w4.heap.size := (by have hzz := hb4.size; (try simp at hzz); omega); have hy_w4_1 := Nat.le_of_lt hz_w4_1; have hz_w4_2 : w.heap.size + 1 + 1 < w4.heap.size := (by have hzz := hb4.size; (try simp at hzz); omega); have hy_w4_2 := Nat.le_of_lt hz_w4_2)
          refine bodyPost_ret (v := .tuple #[.agg #[.int .i64 d, .int .i64 f, .slice A4 ss.length c4], .bool false]) (by simp [results, Try.results123, go_sem, *]) rfl ?_
          rw [HP.out]
          exact ⟨A4, c4, rfl, own_up ho4 upr (by first | exact Nat.le_refl _ | (simp; done) | omega | (simp; omega) | exact (‹_ ∧ _ ∧ Below _ _ _›).2.2.size), bel⟩
        · rw [hcc, show turnRes 102 ss[K] T = swapB ss[K] T by unfold turnRes; rw [if_pos hcc]] at hq
          have HQ := hide hq
          clear hq
          have HA2 := Lib.hid (allC_stepK hFK hKs HA.out hcc)
          have HFS := Lib.hid (flips_stepK T ss F K hFK hKs)
          clear hcc
          obtain ⟨u1, hc1⟩ := own_cell hown (j := K) hKl
          have hf1 := hown.frozenAt K
          go_wp2
          go_quiet ((go_at_call 125; first | exact quiet_ex (unhide HQ _) | exact quiet_add (unhide HQ _)))
          go_wp2
          go_roundw
          case rel =>
            have hst := hown.stored K (.string (swapB ss[K] T))
            have ho5 := hst.1
            rw [set_map, HFS.out] at ho5
            have hg5 := only_trans hg hst.2
            exact ⟨K + 1, by omega, by omega, by go_num, HA2.out, by first | exact ho5 | exact ho5.drewN _, by first | exact hg5 | exact only_drewN hg5 _⟩
          case measure => simp [intOf]; omega
      · have hKe : K = L + 1 := by omega
        subst hKe
        have HP := Lib.hid (boxRes_yes HH.out HA.out)
        have HFL := Lib.hid (flips_len T ss F (L + 1 - F))
        go_wp2
        refine bodyPost_ret (v := .tuple #[.agg #[.int .i64 d, .int .i64 f, .slice (some ⟨g, 0, none⟩) ss.length c1], .bool true]) (by simp [results, Try.results123, go_sem, *]) rfl ?_
        rw [HP.out]
        unfold FreshCardB
        dsimp only
        rw [HFL.out]
        exact ⟨_, c1, rfl, own_up hown upr (by first | exact Nat.le_refl _ | (simp; done) | omega | (simp; omega) | exact (‹_ ∧ _ ∧ Below _ _ _›).2.2.size), bel⟩

set_option maxHeartbeats 1600000 in
theorem i_boxed_RaiseAt (d f : Int) (B : Nat) (A : Option Addr) (n c : Nat) (ss : List ByteArray) (F L T : Int) (w : World) (hS : Strs w B A n ss) (hB : B ≤ w.heap.size) :
    Calls Try.prog 123 #[.agg #[.int .i64 d, .int .i64 f, .slice A n c], .agg #[.int .i64 F, .int .i64 L, .int .i64 T], .func (.func 124) #[] #[]] w (FreshCardB w.heap.size d f (boxRes 100 d f ss F L T).1 (boxRes 100 d f ss F L T).2 w) := by
  have hn := hS.nb
  have hl := hS.len
  have hS2 := ((hS.alloc hB (.cells #[.int .i64 d, .int .i64 f, .slice A n c] 26)).alloc (by simp; omega) (.cells #[.int .i64 F, .int .i64 L, .int .i64 T] 35)).alloc (by simp; omega) (.cells #[.int .i64 0, .int .i64 0, .slice none 0 0] 26)
  have hsr := hS2.rd
  have HL := Lib.hid hl
  cases hh : boxOk d f ss n F L
  · have HP := Lib.hid (boxRes_no (c := 100) (at_ := T) (show boxOk d f ss ss.length F L = false by rw [hl]; exact hh))
    clear hl
    go_enter Try.func123, Try.ntmps123
    go_wp2_with (first | (go_at_call 173; refine (i_hasBox _ _ B _ _ _ ss _ _ _ _ hS2 (by simp; omega)).mono ?_; rw [hh]; rintro e w1 ⟨rfl, hb1⟩; obtain ⟨hcb, hfb⟩ := bcell hb1; have hz_w1_0 : w.heap.size < w1.heap.size := (by have hzz := hb1.size; (try simp at hzz); omega); have hy_w1_0 := Nat.le_of_lt hz_w1_0; have hz_w1_1 : w.heap.size + 1 < w1.heap.size := (by have hzz := hb1.size; (try simp at hzz); omega); have hy_w1_1 := Nat.le_of_lt hz_w1_1; have hz_w1_2 : w.heap.size + 1 + 1 < w1.heap.size := (by have hzz := hb1.size; (try simp at hzz); omega); have hy_w1_2 := Nat.le_of_lt hz_w1_2; have hS3 := hS2.below (hb1.mono (by simp; omega))) | (go_at_call 94; refine (i_copied _ _ B _ _ _ ss _ hS3 (by omega)).mono ?_; rintro e w2 ⟨A1, c1, rfl, ho2, hb2⟩; obtain ⟨hcb2, hfb2⟩ := bcell hb2; have hz_w2_0 : w.heap.size < w2.heap.size := (by have hzz := hb2.size; (try simp at hzz); omega); have hy_w2_0 := Nat.le_of_lt hz_w2_0; have hz_w2_1 : w.heap.size + 1 < w2.heap.size := (by have hzz := hb2.size; (try simp at hzz); omega); have hy_w2_1 := Nat.le_of_lt hz_w2_1; have hz_w2_2 : w.heap.size + 1 + 1 < w2.heap.size := (by have hzz := hb2.size; (try simp at hzz); omega); have hy_w2_2 := Nat.le_of_lt hz_w2_2))
    refine bodyPost_ret (v := .tuple #[.agg #[.int .i64 d, .int .i64 f, .slice A1 ss.length c1], .bool false]) (by simp [results, Try.results123, go_sem, *]) rfl ?_
    rw [HP.out]
    exact ⟨A1, c1, rfl, own_up ho2 upr (by first | exact Nat.le_refl _ | (simp; done) | omega | (simp; omega) | exact (‹_ ∧ _ ∧ Below _ _ _›).2.2.size), bel⟩
  · obtain ⟨hF0, hFL, hLn⟩ := boxOk_iff hh
    obtain ⟨F, rfl⟩ := Int.eq_ofNat_of_zero_le hF0
    obtain ⟨L, rfl⟩ := Int.eq_ofNat_of_zero_le (show 0 ≤ L by omega)
    have hFL' : F ≤ L := by omega
    have hLn' : L < n := by omega
    have HH := Lib.hid (show boxOk d f ss ss.length F L = true by rw [hl]; exact hh)
    clear hl hF0 hFL hLn hsr
    go_enter Try.func123, Try.ntmps123
    go_wp2_with (first | (go_at_call 173; refine (i_hasBox _ _ B _ _ _ ss _ _ _ _ hS2 (by simp; omega)).mono ?_; rw [hh]; rintro e w1 ⟨rfl, hb1⟩; obtain ⟨hcb, hfb⟩ := bcell hb1; have hz_w1_0 : w.heap.size < w1.heap.size := (by have hzz := hb1.size; (try simp at hzz); omega); have hy_w1_0 := Nat.le_of_lt hz_w1_0; have hz_w1_1 : w.heap.size + 1 < w1.heap.size := (by have hzz := hb1.size; (try simp at hzz); omega); have hy_w1_1 := Nat.le_of_lt hz_w1_1; have hz_w1_2 : w.heap.size + 1 + 1 < w1.heap.size := (by have hzz := hb1.size; (try simp at hzz); omega); have hy_w1_2 := Nat.le_of_lt hz_w1_2; have hS3 := hS2.below (hb1.mono (by simp; omega))) | (go_at_call 94; refine (i_copied _ _ B _ _ _ ss _ hS3 (by omega)).mono ?_; rintro e w2 ⟨A1, c1, rfl, ho2, hb2⟩; obtain ⟨hcb2, hfb2⟩ := bcell hb2; have hz_w2_0 : w.heap.size < w2.heap.size := (by have hzz := hb2.size; (try simp at hzz); omega); have hy_w2_0 := Nat.le_of_lt hz_w2_0; have hz_w2_1 : w.heap.size + 1 < w2.heap.size := (by have hzz := hb2.size; (try simp at hzz); omega); have hy_w2_1 := Nat.le_of_lt hz_w2_1; have hz_w2_2 : w.heap.size + 1 + 1 < w2.heap.size := (by have hzz := hb2.size; (try simp at hzz); omega); have hy_w2_2 := Nat.le_of_lt hz_w2_2; (have hnl : 0 < ss.length := (by have := HL.out; omega)); obtain ⟨g, cap, hv, hbg, hglt⟩ := ho2.form hnl; (have hA : A1 = some ⟨g, 0, none⟩ := (by injection hv)); subst hA; clear hv; have hS4 := hS3.below (hb2.mono (by omega))))
    have ho3 := ho2.alloc (.cells #[.int .i64 d, .int .i64 f, .slice (some ⟨g, 0, none⟩) ss.length c1] 26)
    have hbA : Below w2.heap.size w2 (w2.alloc (.cells #[.int .i64 d, .int .i64 f, .slice (some ⟨g, 0, none⟩) ss.length c1] 26)) := bel
    have hko : (w2.alloc (.cells #[.int .i64 d, .int .i64 f, .slice (some ⟨g, 0, none⟩) ss.length c1] 26)).heap[w2.heap.size]? = some (.cells #[.int .i64 d, .int .i64 f, .slice (some ⟨g, 0, none⟩) ss.length c1] 26) := blk_new w2 (.cells #[.int .i64 d, .int .i64 f, .slice (some ⟨g, 0, none⟩) ss.length c1] 26)
    have hb3 : Below w.heap.size w (w2.alloc (.cells #[.int .i64 d, .int .i64 f, .slice (some ⟨g, 0, none⟩) ss.length c1] 26)) := bel
    have hS5 := hS4.below (hbA.mono (by omega))
    have hwg : w.heap.size ≤ g := by omega
    have hBg : B ≤ g := by omega
    have hge_g : w.heap.size + 3 ≤ g := (by have hzz := hbg; (try simp at hzz); omega); have hne_g_0 : g ≠ w.heap.size := (by have hzz := hbg; (try simp at hzz); omega); have hne2_g_0 := Ne.symm hne_g_0; have hne_g_1 : g ≠ w.heap.size + 1 := (by have hzz := hbg; (try simp at hzz); omega); have hne2_g_1 := Ne.symm hne_g_1; have hne_g_2 : g ≠ w.heap.size + 1 + 1 := (by have hzz := hbg; (try simp at hzz); omega); have hne2_g_2 := Ne.symm hne_g_2
    go_loopw [9, 10, 11] (fun kk _ _ wr => ∃ K : Nat, F ≤ K ∧ K ≤ L + 1 ∧ kk = .int .i64 K ∧ Hid (allC 100 T ss F (K - F) = true) ∧ wr.ownsRow w1.heap.size 9 1 (.slice (some ⟨g, 0, none⟩) ss.length c1) ss.length ((flips T ss F (K - F)).map Value.string) ∧ (w2.alloc (.cells #[.int .i64 d, .int .i64 f, .slice (some ⟨g, 0, none⟩) ss.length c1] 26)).grownBy wr (some g)) (fun kk _ _ _ => L + 1 - (intOf kk).toNat)
    case atStart => exact ⟨F, Nat.le_refl _, by omega, rfl, by rw [Nat.sub_self]; exact allC_zero _ _ _ _, by rw [Nat.sub_self, flips_zero]; exact ho3, World.grownBy.refl _ _⟩
    case round =>
      obtain ⟨K, hFK, hKL, rfl, HA, hown, hg⟩ := hrel
      have hbr : Below w.heap.size w wr := only_below_B hb3 hg hwg
      have hSr := hS5.grown hg hBg (by simp; omega)
      have hzr : w2.heap.size + 1 ≤ wr.heap.size := by have := hg.size; simpa using this
      obtain ⟨hx0, hx1, hx2, hxl⟩ := blk3 ((hg.block w2.heap.size (by simp) (by intro e; injection e; omega)).trans hko)
      have hcb3 : ∀ b o, b < w2.heap.size → b ≠ g → wr.cell? ⟨b, o, none⟩ = w2.cell? ⟨b, o, none⟩ := fun b o h hne => ((gcell hg).1 b o (by simp; omega) hne).trans ((bcell hbA).1 b o h)
      have hfb3 : ∀ b o, b < w2.heap.size → b ≠ g → wr.frozen? ⟨b, o, none⟩ = w2.frozen? ⟨b, o, none⟩ := fun b o h hne => ((gcell hg).2 b o (by simp; omega) hne).trans ((bcell hbA).2 b o h)
      have hz0 : w.heap.size < wr.heap.size := by omega
      have hz1 : w.heap.size + 1 < wr.heap.size := by omega
      have hz2 : w.heap.size + 1 + 1 < wr.heap.size := by omega
      by_cases hlt : K ≤ L
      · obtain ⟨hKs, ad, hAad, hab, hx, hsz⟩ := hSr.at_ (k := K) (by omega)
        subst hAad
        have hKn : K < n := by omega
        have hKl : K < ss.length := hKs
        have hq : ∀ W : World, Calls Try.prog 124 #[.string ss[K], .int .i64 T] W fun e w' => e = .returned (.tuple #[.string (turnRes 100 ss[K] T), .bool (cornerB 100 ss[K] T)]) ∧ ∃ m, w' = W.drewN m := fun W => i_RaiseAt _ _ W hsz
        cases hcc : cornerB 100 ss[K] T
        · rw [hcc] at hq
          have HQ := hide hq
          clear hq
          have HP := Lib.hid (boxRes_stop (d := d) (f := f) (L := L) (allC_stopK (m := L + 1) hFK hKs (by omega) hcc))
          clear hcc
          go_wp2
          go_quiet ((go_at_call 124; first | exact quiet_ex (unhide HQ _) | exact quiet_add (unhide HQ _)))
          go_wp2_with (go_at_call 94; refine (i_copied _ _ B _ _ _ ss _ (hSr.drewN _) (by simp; omega)).mono ?_; rintro e w4 ⟨A4, c4, rfl, ho4, hb4'⟩; (have hb4 : Below wr.heap.size wr w4 := ⟨hb4'.os, hb4'.tape, hb4'.output, hb4'.size, hb4'.block⟩); clear hb4'; obtain ⟨hcb4, hfb4⟩ := bcell hb4; have hz_w4_0 : w.heap.size < w4.heap.size := (by have hzz := hb4.size; (try simp at hzz); omega); have hy_w4_0 := Nat.le_of_lt hz_w4_0; have hz_w4_1 : w.heap.size + 1 < w4.heap.size := (by have hzz := hb4.size; (try simp at hzz); omega); have hy_w4_1 := Nat.le_of_lt hz_w4_1; have hz_w4_2 : w.heap.size + 1 + 1 < w4.heap.size := (by have hzz := hb4.size; (try simp at hzz); omega); have hy_w4_2 := Nat.le_of_lt hz_w4_2)
          refine bodyPost_ret (v := .tuple #[.agg #[.int .i64 d, .int .i64 f, .slice A4 ss.length c4], .bool false]) (by simp [results, Try.results123, go_sem, *]) rfl ?_
          rw [HP.out]
          exact ⟨A4, c4, rfl, own_up ho4 upr (by first | exact Nat.le_refl _ | (simp; done) | omega | (simp; omega) | exact (‹_ ∧ _ ∧ Below _ _ _›).2.2.size), bel⟩
        · rw [hcc, show turnRes 100 ss[K] T = swapB ss[K] T by unfold turnRes; rw [if_pos hcc]] at hq
          have HQ := hide hq
          clear hq
          have HA2 := Lib.hid (allC_stepK hFK hKs HA.out hcc)
          have HFS := Lib.hid (flips_stepK T ss F K hFK hKs)
          clear hcc
          obtain ⟨u1, hc1⟩ := own_cell hown (j := K) hKl
          have hf1 := hown.frozenAt K
          go_wp2
          go_quiet ((go_at_call 124; first | exact quiet_ex (unhide HQ _) | exact quiet_add (unhide HQ _)))
          go_wp2
          go_roundw
          case rel =>
            have hst := hown.stored K (.string (swapB ss[K] T))
            have ho5 := hst.1
            rw [set_map, HFS.out] at ho5
            have hg5 := only_trans hg hst.2
            exact ⟨K + 1, by omega, by omega, by go_num, HA2.out, by first | exact ho5 | exact ho5.drewN _, by first | exact hg5 | exact only_drewN hg5 _⟩
          case measure => simp [intOf]; omega
      · have hKe : K = L + 1 := by omega
        subst hKe
        have HP := Lib.hid (boxRes_yes HH.out HA.out)
        have HFL := Lib.hid (flips_len T ss F (L + 1 - F))
        go_wp2
        refine bodyPost_ret (v := .tuple #[.agg #[.int .i64 d, .int .i64 f, .slice (some ⟨g, 0, none⟩) ss.length c1], .bool true]) (by simp [results, Try.results123, go_sem, *]) rfl ?_
        rw [HP.out]
        unfold FreshCardB
        dsimp only
        rw [HFL.out]
        exact ⟨_, c1, rfl, own_up hown upr (by first | exact Nat.le_refl _ | (simp; done) | omega | (simp; omega) | exact (‹_ ∧ _ ∧ Below _ _ _›).2.2.size), bel⟩

set_option maxHeartbeats 400000 in
theorem i_TakeBox (d f : Int) (B : Nat) (A : Option Addr) (n c : Nat) (ss : List ByteArray) (F L T : Int) (w : World) (hS : Strs w B A n ss) (hB : B ≤ w.heap.size) :
    Calls Try.prog 59 #[.agg #[.int .i64 d, .int .i64 f, .slice A n c], .agg #[.int .i64 F, .int .i64 L, .int .i64 T]] w (FreshCardB w.heap.size d f (boxRes 102 d f ss F L T).1 (boxRes 102 d f ss F L T).2 w) := by
  have hS2 := ((hS.alloc hB (.cells #[.int .i64 d, .int .i64 f, .slice A n c] 26)).alloc (by simp; omega) (.cells #[.int .i64 F, .int .i64 L, .int .i64 T] 35)).alloc (by simp; omega) (.cells #[.int .i64 0, .int .i64 0, .slice none 0 0] 26)
  go_enter Try.func59, Try.ntmps59
  go_wp2_with (go_at_call 123; refine (i_boxed_LowerAt _ _ B _ _ _ ss _ _ _ _ hS2 (by simp; omega)).mono ?_; rintro e w1 ⟨A1, c1, rfl, ho1, hb1⟩; obtain ⟨hcb, hfb⟩ := bcell hb1; have hz_w1_0 : w.heap.size < w1.heap.size := (by have hzz := hb1.size; (try simp at hzz); omega); have hy_w1_0 := Nat.le_of_lt hz_w1_0; have hz_w1_1 : w.heap.size + 1 < w1.heap.size := (by have hzz := hb1.size; (try simp at hzz); omega); have hy_w1_1 := Nat.le_of_lt hz_w1_1; have hz_w1_2 : w.heap.size + 1 + 1 < w1.heap.size := (by have hzz := hb1.size; (try simp at hzz); omega); have hy_w1_2 := Nat.le_of_lt hz_w1_2)
  refine bodyPost_ret (v := .tuple #[.agg #[.int .i64 d, .int .i64 f, .slice A1 _ c1], .bool _]) (by simp [results, Try.results59, go_sem, *]; exact ⟨rfl, rfl⟩) rfl ?_
  exact ⟨A1, c1, rfl, own_up ho1 upr (by first | exact Nat.le_refl _ | (simp; done) | omega | (simp; omega) | exact (‹_ ∧ _ ∧ Below _ _ _›).2.2.size), bel⟩

set_option maxHeartbeats 400000 in
theorem i_AddBox (d f : Int) (B : Nat) (A : Option Addr) (n c : Nat) (ss : List ByteArray) (F L T : Int) (w : World) (hS : Strs w B A n ss) (hB : B ≤ w.heap.size) :
    Calls Try.prog 58 #[.agg #[.int .i64 d, .int .i64 f, .slice A n c], .agg #[.int .i64 F, .int .i64 L, .int .i64 T]] w (FreshCardB w.heap.size d f (boxRes 100 d f ss F L T).1 (boxRes 100 d f ss F L T).2 w) := by
  have hS2 := ((hS.alloc hB (.cells #[.int .i64 d, .int .i64 f, .slice A n c] 26)).alloc (by simp; omega) (.cells #[.int .i64 F, .int .i64 L, .int .i64 T] 35)).alloc (by simp; omega) (.cells #[.int .i64 0, .int .i64 0, .slice none 0 0] 26)
  go_enter Try.func58, Try.ntmps58
  go_wp2_with (go_at_call 123; refine (i_boxed_RaiseAt _ _ B _ _ _ ss _ _ _ _ hS2 (by simp; omega)).mono ?_; rintro e w1 ⟨A1, c1, rfl, ho1, hb1⟩; obtain ⟨hcb, hfb⟩ := bcell hb1; have hz_w1_0 : w.heap.size < w1.heap.size := (by have hzz := hb1.size; (try simp at hzz); omega); have hy_w1_0 := Nat.le_of_lt hz_w1_0; have hz_w1_1 : w.heap.size + 1 < w1.heap.size := (by have hzz := hb1.size; (try simp at hzz); omega); have hy_w1_1 := Nat.le_of_lt hz_w1_1; have hz_w1_2 : w.heap.size + 1 + 1 < w1.heap.size := (by have hzz := hb1.size; (try simp at hzz); omega); have hy_w1_2 := Nat.le_of_lt hz_w1_2)
  refine bodyPost_ret (v := .tuple #[.agg #[.int .i64 d, .int .i64 f, .slice A1 _ c1], .bool _]) (by simp [results, Try.results58, go_sem, *]; exact ⟨rfl, rfl⟩) rfl ?_
  exact ⟨A1, c1, rfl, own_up ho1 upr (by first | exact Nat.le_refl _ | (simp; done) | omega | (simp; omega) | exact (‹_ ∧ _ ∧ Below _ _ _›).2.2.size), bel⟩

end Go.Proofs.Yteffbjddgdjkmaa
