/- The contract of PutStrip. -/
import Derived.Test.YtmnlinclbnbpoaaIns1
import Derived.Test.YtmnlinclbnbpoaaCard3
import Derived.Deep.RegionHeld3
namespace Go.Proofs.Ytmnlinclbnbpoaa
open Go.ChangeShapes Go.WideShapes Go.ChangeAt Go.RowKit
set_option linter.unusedVariables false
set_option maxRecDepth 10000

def insAt (d f : Int) (ss : List ByteArray) (k : Int) (s : ByteArray) : List ByteArray × Bool :=
  if (cardOk d f ss && inB k 0 (ss.length : Int)) && cardOk d f (ss.take k.toNat ++ s :: ss.drop k.toNat) then (ss.take k.toNat ++ s :: ss.drop k.toNat, true) else (ss, false)
theorem insAt_ok (d f : Int) (ss : List ByteArray) (k : Int) (s : ByteArray) (m : Nat) (h : ss.length ≤ m ∧ ∀ x ∈ ss, x.size ≤ 16777216) (hs : s.size ≤ 16777216) (hm : 10 ≤ m) : (insAt d f ss k s).1.length ≤ m ∧ ∀ x ∈ (insAt d f ss k s).1, x.size ≤ 16777216 := by
  unfold insAt
  split
  · rename_i hc
    have hc2 : cardOk d f (ss.take k.toNat ++ s :: ss.drop k.toNat) = true := by simp only [Bool.and_eq_true] at hc; exact hc.2
    unfold cardOk at hc2
    simp only [Bool.and_eq_true] at hc2
    have h6 := inB_iff.1 hc2.2.1
    refine ⟨by show (ss.take k.toNat ++ s :: ss.drop k.toNat).length ≤ m; omega, fun x hx => ?_⟩
    rcases List.mem_append.1 hx with hx | hx
    · exact h.2 x (List.mem_of_mem_take hx)
    · rcases List.mem_cons.1 hx with rfl | hx
      · exact hs
      · exact h.2 x (List.mem_of_mem_drop hx)
  · exact h

theorem ins_str_ts (base g n c i vb : Nat) (tv : TypeId) (ss ts : List ByteArray) (s : ByteArray) (w : World) (hts : Hid (ts = ss.take i ++ s :: ss.drop i)) (hO : w.ownsRow base 9 1 (.slice (some ⟨g, 0, none⟩) n c) n (ss.map Value.string)) (hn : n ≤ 16777216) (hi : i ≤ n)
    (hv : w.heap[vb]? = some (.cells #[.string s] tv (0, 0))) (hne : vb ≠ g) :
    Calls Try.prog 56 #[.slice (some ⟨g, 0, none⟩) n c, .int .i64 i, .slice (some ⟨vb, 0, none⟩) 1 1] w fun e w' => ∃ g' c', e = .returned (.slice (some ⟨g', 0, none⟩) ts.length c') ∧
      w'.ownsRow base 9 1 (.slice (some ⟨g', 0, none⟩) ts.length c') ts.length (ts.map Value.string) ∧ w.grownBy w' (some g) ∧ (g' = g ∨ w.heap.size ≤ g') := by
  have h := hts.out
  have hl : ss.length = n := by have := hO.1; simpa using this
  have hlen : ts.length = n + 1 := by rw [h, List.length_append, List.length_cons, List.length_take, List.length_drop]; omega
  rw [hlen]
  subst h
  exact ins_str base g n c i vb tv ss s w hO hn hi hv hne
set_option maxHeartbeats 1000000 in
theorem i_PutStrip (d f : Int) (B : Nat) (A : Option Addr) (n c : Nat) (ss : List ByteArray) (k : Int) (s : ByteArray) (w : World) (hS : Strs w B A n ss) (hB : B ≤ w.heap.size) (hss : s.size ≤ 16777216) (hnm : n ≤ 16777215) :
    Calls Try.prog 11 #[.agg #[.int .i64 d, .int .i64 f, .slice A n c], .int .i64 k, .string s] w (FreshCardB w.heap.size d f (insAt d f ss k s).1 (insAt d f ss k s).2 w) := by
  have hn := hS.nb
  have hl := hS.len
  have hS2 := (hS.alloc hB (.cells #[.int .i64 d, .int .i64 f, .slice A n c] 26)).alloc (by simp; omega) (.cells #[.int .i64 0, .int .i64 0, .slice none 0 0] 26)
  have hW := fun a lo hi w => i_within a lo hi w
  cases hc0 : cardOk d f ss
  · have HP : insAt d f ss k s = (ss, false) := by unfold insAt; rw [hc0]; rfl
    rw [HP]
    go_enter Try.func11, Try.ntmps11
    go_wp2_with (first | (go_at_call 16; refine (i_CardOk _ _ _ _ _ ss _ (hS2.more (by simp; omega))).mono ?_; rintro e w1 ⟨rfl, hb1⟩; obtain ⟨hcb, hfb⟩ := bcell hb1; have hz_w1_0 : w.heap.size < w1.heap.size := (by have hzz := hb1.size; (try simp at hzz); omega); have hy_w1_0 := Nat.le_of_lt hz_w1_0; have hz_w1_1 : w.heap.size + 1 < w1.heap.size := (by have hzz := hb1.size; (try simp at hzz); omega); have hy_w1_1 := Nat.le_of_lt hz_w1_1) | (go_at_call 54; refine (i_copied _ _ B _ _ _ ss _ (hS2.below (hb1.mono (by simp; omega))) (by omega)).mono ?_; rintro e w2 ⟨A1, c1, rfl, ho2, hb2⟩; obtain ⟨hcb2, hfb2⟩ := bcell hb2; have hz_w2_0 : w.heap.size < w2.heap.size := (by have hzz := hb2.size; (try simp at hzz); omega); have hy_w2_0 := Nat.le_of_lt hz_w2_0; have hz_w2_1 : w.heap.size + 1 < w2.heap.size := (by have hzz := hb2.size; (try simp at hzz); omega); have hy_w2_1 := Nat.le_of_lt hz_w2_1))
    refine bodyPost_ret (v := .tuple #[.agg #[.int .i64 d, .int .i64 f, .slice A1 ss.length c1], .bool false]) (by simp [results, Try.results11, go_sem, *]) rfl ?_
    exact ⟨A1, c1, rfl, own_up ho2 upr (by first | exact Nat.le_refl _ | (simp; done) | omega | (simp; omega) | exact (‹_ ∧ _ ∧ Below _ _ _›).2.2.size), bel⟩
  cases hk : inB k 0 (n : Int)
  · have HP : insAt d f ss k s = (ss, false) := by unfold insAt; rw [hc0, hl, hk]; rfl
    rw [HP]
    go_enter Try.func11, Try.ntmps11
    go_wp2_with (first | (go_at_call 16; refine (i_CardOk _ _ _ _ _ ss _ (hS2.more (by simp; omega))).mono ?_; rintro e w1 ⟨rfl, hb1⟩; obtain ⟨hcb, hfb⟩ := bcell hb1; have hz_w1_0 : w.heap.size < w1.heap.size := (by have hzz := hb1.size; (try simp at hzz); omega); have hy_w1_0 := Nat.le_of_lt hz_w1_0; have hz_w1_1 : w.heap.size + 1 < w1.heap.size := (by have hzz := hb1.size; (try simp at hzz); omega); have hy_w1_1 := Nat.le_of_lt hz_w1_1) | (go_at_call 53; refine (i_within _ _ _ _).mono ?_; rintro e w' ⟨rfl, rfl⟩) | (go_at_call 54; refine (i_copied _ _ B _ _ _ ss _ (hS2.below (hb1.mono (by simp; omega))) (by omega)).mono ?_; rintro e w2 ⟨A1, c1, rfl, ho2, hb2⟩; obtain ⟨hcb2, hfb2⟩ := bcell hb2; have hz_w2_0 : w.heap.size < w2.heap.size := (by have hzz := hb2.size; (try simp at hzz); omega); have hy_w2_0 := Nat.le_of_lt hz_w2_0; have hz_w2_1 : w.heap.size + 1 < w2.heap.size := (by have hzz := hb2.size; (try simp at hzz); omega); have hy_w2_1 := Nat.le_of_lt hz_w2_1))
    refine bodyPost_ret (v := .tuple #[.agg #[.int .i64 d, .int .i64 f, .slice A1 ss.length c1], .bool false]) (by simp [results, Try.results11, go_sem, *]) rfl ?_
    exact ⟨A1, c1, rfl, own_up ho2 upr (by first | exact Nat.le_refl _ | (simp; done) | omega | (simp; omega) | exact (‹_ ∧ _ ∧ Below _ _ _›).2.2.size), bel⟩
  obtain ⟨hk0, hk1⟩ := inB_iff.1 hk
  obtain ⟨K, rfl⟩ := Int.eq_ofNat_of_zero_le hk0
  have hKn : K ≤ n := by omega
  have hn1 : 1 ≤ n := by
    unfold cardOk at hc0
    simp only [Bool.and_eq_true] at hc0
    have h6 := inB_iff.1 hc0.2.1
    omega
  obtain ⟨ts, hts⟩ : ∃ ts, ts = ss.take K ++ s :: ss.drop K := ⟨_, rfl⟩
  have hlen : ts.length = n + 1 := by rw [hts, List.length_append, List.length_cons, List.length_take, List.length_drop]; omega
  have hsb : ∀ x ∈ ts, x.size ≤ 16777216 := by
    intro x hx
    rw [hts] at hx
    rcases List.mem_append.1 hx with h | h
    · exact hS.sb x (List.mem_of_mem_take h)
    · rcases List.mem_cons.1 h with rfl | h
      · exact hss
      · exact hS.sb x (List.mem_of_mem_drop h)
  have HL := Lib.hid hl
  have hlen2 : ts.length ≤ 16777216 := by omega
  have HPY : Hid (cardOk d f ts = true → insAt d f ss K s = (ts, true)) := by
    intro h; unfold insAt; rw [hl, hc0, hk, Int.toNat_natCast, ← hts, h]; rfl
  have HPN : Hid (cardOk d f ts = false → insAt d f ss K s = (ss, false)) := by
    intro h; unfold insAt; rw [hl, hc0, hk, Int.toNat_natCast, ← hts, h]; rfl
  have HTS := Lib.hid hts
  clear hl hlen hts
  cases hcs : cardOk d f ts
  · have HP := Lib.hid (HPN.out hcs)
    have HCS := Lib.hid hcs
    clear hcs
    go_enter Try.func11, Try.ntmps11
    go_wp2_with (first | (go_at_call 16; refine (i_CardOk _ _ _ _ _ ss _ (hS2.more (by simp; omega))).mono ?_; rintro e w1 ⟨rfl, hb1⟩; obtain ⟨hcb, hfb⟩ := bcell hb1; have hz_w1_0 : w.heap.size < w1.heap.size := (by have hzz := hb1.size; (try simp at hzz); omega); have hy_w1_0 := Nat.le_of_lt hz_w1_0; have hz_w1_1 : w.heap.size + 1 < w1.heap.size := (by have hzz := hb1.size; (try simp at hzz); omega); have hy_w1_1 := Nat.le_of_lt hz_w1_1; have hS3 := hS2.below (hb1.mono (by simp; omega))) | (go_at_call 53; refine (i_within _ _ _ _).mono ?_; rintro e w' ⟨rfl, rfl⟩))
    go_region_held3 (fun W => (∀ b o, b < w.heap.size + 1 → W.cell? ⟨b, o, none⟩ = (w1).cell? ⟨b, o, none⟩) ∧ (∀ b o, b < w.heap.size + 1 → W.frozen? ⟨b, o, none⟩ = (w1).frozen? ⟨b, o, none⟩) ∧ Below (w.heap.size + 1) (w1) W) (exact keep_of bel) (first | (go_at_call 57; have hq := (‹_ ∧ _ ∧ Below _ _ _›).2.2; refine (clone_str B _ _ _ ss _ ?_ ?_).mono ?_; exact hS3.below (hq.mono (by omega)); exact Nat.le_trans (by omega) hq.size; rintro e w2 ⟨A1, c1, rfl, ho2, hb2⟩; (have hb12 : Below w1.heap.size w1 w2 := bel); have hz_w2_0 : w.heap.size < w2.heap.size := (by have hzz := hb12.size; (try simp at hzz); omega); have hy_w2_0 := Nat.le_of_lt hz_w2_0; have hz_w2_1 : w.heap.size + 1 < w2.heap.size := (by have hzz := hb12.size; (try simp at hzz); omega); have hy_w2_1 := Nat.le_of_lt hz_w2_1; obtain ⟨g, cap, hv, hbg, hglt⟩ := ho2.form (by have := HL.out; omega); (have hA : A1 = some ⟨g, 0, none⟩ := (by injection hv)); subst hA; clear hv; (have hbg2 : w1.heap.size ≤ g := (by simp at hbg; omega)); (have hsz2 := hb12.size); (have ho2b := own_wideb (b := w1.heap.size) ho2 (by first | exact Nat.le_refl _ | (simp; first | done | fail) | (simp; omega)))) | (go_at_call 56; refine (ins_str_ts w1.heap.size g _ _ K _ 9 ss ts s _ HTS ?_ ?_ ?_ ?_ ?_).mono ?_; (first | (with_reducible exact ho2b) | (with_reducible exact ho2b.alloc _)); (have := HL.out; omega); (have := HL.out; omega); (first | (with_reducible exact blk_new _ _) | exact blk_below (blk_drew (blk_new _ _)) hb2 (by simp) | exact blk_below (blk_new _ _) hb2 (by simp)); (first | omega | (simp at hbg ⊢; omega)); rintro e w3 ⟨g', c', rfl, ho3, hg3, hgg⟩; (have hb3 := grown_below (B := w1.heap.size) hg3 (by intro k hk; injection hk; omega) (by first | omega | (simp; omega))); (have hb13 : Below w1.heap.size w1 w3 := (by first | exact hb12.trans hb3 | exact (hb12.alloc hsz2 _).trans hb3)); have hz_w3_0 : w.heap.size < w3.heap.size := (by have hzz := hb13.size; (try simp at hzz); omega); have hy_w3_0 := Nat.le_of_lt hz_w3_0; have hz_w3_1 : w.heap.size + 1 < w3.heap.size := (by have hzz := hb13.size; (try simp at hzz); omega); have hy_w3_1 := Nat.le_of_lt hz_w3_1) | (go_at_call 55; refine (i_changed_no d f w3.heap.size _ _ _ _ _ _ ss ts _ ?_ ?_ ?_ HCS.out).mono ?_; exact ((hS3.below (hb13.mono (by omega))).more (by omega)); exact strs_of_own ho3 (by omega) hsb; exact Nat.le_refl _; rintro e w4 ⟨A4, c4, rfl, ho4, hb4⟩; obtain ⟨hcb4, hfb4⟩ := bcell hb4; (have hcb3 := bcellB hb13); obtain ⟨hcb3, hfb3⟩ := hcb3))
    all_goals (
      go_wp2
      refine bodyPost_ret (v := .tuple #[.agg #[.int .i64 d, .int .i64 f, .slice A4 ss.length c4], .bool false]) (by simp [results, Try.results11, go_sem, *]) rfl ?_
      rw [HP.out]
      exact ⟨A4, c4, rfl, own_up ho4 upr (by first | exact Nat.le_refl _ | (simp; done) | omega | (simp; omega) | exact (‹_ ∧ _ ∧ Below _ _ _›).2.2.size), bel⟩)
  · have HP := Lib.hid (HPY.out hcs)
    have HCS := Lib.hid hcs
    clear hcs
    go_enter Try.func11, Try.ntmps11
    go_wp2_with (first | (go_at_call 16; refine (i_CardOk _ _ _ _ _ ss _ (hS2.more (by simp; omega))).mono ?_; rintro e w1 ⟨rfl, hb1⟩; obtain ⟨hcb, hfb⟩ := bcell hb1; have hz_w1_0 : w.heap.size < w1.heap.size := (by have hzz := hb1.size; (try simp at hzz); omega); have hy_w1_0 := Nat.le_of_lt hz_w1_0; have hz_w1_1 : w.heap.size + 1 < w1.heap.size := (by have hzz := hb1.size; (try simp at hzz); omega); have hy_w1_1 := Nat.le_of_lt hz_w1_1; have hS3 := hS2.below (hb1.mono (by simp; omega))) | (go_at_call 53; refine (i_within _ _ _ _).mono ?_; rintro e w' ⟨rfl, rfl⟩))
    go_region_held3 (fun W => (∀ b o, b < w.heap.size + 1 → W.cell? ⟨b, o, none⟩ = (w1).cell? ⟨b, o, none⟩) ∧ (∀ b o, b < w.heap.size + 1 → W.frozen? ⟨b, o, none⟩ = (w1).frozen? ⟨b, o, none⟩) ∧ Below (w.heap.size + 1) (w1) W) (exact keep_of bel) (first | (go_at_call 57; have hq := (‹_ ∧ _ ∧ Below _ _ _›).2.2; refine (clone_str B _ _ _ ss _ ?_ ?_).mono ?_; exact hS3.below (hq.mono (by omega)); exact Nat.le_trans (by omega) hq.size; rintro e w2 ⟨A1, c1, rfl, ho2, hb2⟩; (have hb12 : Below w1.heap.size w1 w2 := bel); have hz_w2_0 : w.heap.size < w2.heap.size := (by have hzz := hb12.size; (try simp at hzz); omega); have hy_w2_0 := Nat.le_of_lt hz_w2_0; have hz_w2_1 : w.heap.size + 1 < w2.heap.size := (by have hzz := hb12.size; (try simp at hzz); omega); have hy_w2_1 := Nat.le_of_lt hz_w2_1; obtain ⟨g, cap, hv, hbg, hglt⟩ := ho2.form (by have := HL.out; omega); (have hA : A1 = some ⟨g, 0, none⟩ := (by injection hv)); subst hA; clear hv; (have hbg2 : w1.heap.size ≤ g := (by simp at hbg; omega)); (have hsz2 := hb12.size); (have ho2b := own_wideb (b := w1.heap.size) ho2 (by first | exact Nat.le_refl _ | (simp; first | done | fail) | (simp; omega)))) | (go_at_call 56; refine (ins_str_ts w1.heap.size g _ _ K _ 9 ss ts s _ HTS ?_ ?_ ?_ ?_ ?_).mono ?_; (first | (with_reducible exact ho2b) | (with_reducible exact ho2b.alloc _)); (have := HL.out; omega); (have := HL.out; omega); (first | (with_reducible exact blk_new _ _) | exact blk_below (blk_drew (blk_new _ _)) hb2 (by simp) | exact blk_below (blk_new _ _) hb2 (by simp)); (first | omega | (simp at hbg ⊢; omega)); rintro e w3 ⟨g', c', rfl, ho3, hg3, hgg⟩; (have hb3 := grown_below (B := w1.heap.size) hg3 (by intro k hk; injection hk; omega) (by first | omega | (simp; omega))); (have hb13 : Below w1.heap.size w1 w3 := (by first | exact hb12.trans hb3 | exact (hb12.alloc hsz2 _).trans hb3)); have hz_w3_0 : w.heap.size < w3.heap.size := (by have hzz := hb13.size; (try simp at hzz); omega); have hy_w3_0 := Nat.le_of_lt hz_w3_0; have hz_w3_1 : w.heap.size + 1 < w3.heap.size := (by have hzz := hb13.size; (try simp at hzz); omega); have hy_w3_1 := Nat.le_of_lt hz_w3_1) | (go_at_call 55; refine (i_changed_yes d f w3.heap.size _ _ _ _ _ _ ss ts _ ?_ ?_ ?_ HCS.out).mono ?_; exact ((hS3.below (hb13.mono (by omega))).more (by omega)); exact strs_of_own ho3 (by omega) hsb; exact Nat.le_refl _; rintro e w4 ⟨rfl, hb4⟩; obtain ⟨hcb4, hfb4⟩ := bcell hb4; (have hcb3 := bcellB hb13); obtain ⟨hcb3, hfb3⟩ := hcb3))
    all_goals (
      have ho4 := own_below ho3 hb4
      go_wp2
      refine bodyPost_ret (v := .tuple #[.agg #[.int .i64 d, .int .i64 f, .slice (some ⟨g', 0, none⟩) ts.length c'], .bool true]) (by simp [results, Try.results11, go_sem, *]) rfl ?_
      rw [HP.out]
      exact ⟨_, c', rfl, own_up ho4 upr (by first | exact Nat.le_refl _ | (simp; done) | omega | (simp; omega) | exact (‹_ ∧ _ ∧ Below _ _ _›).2.2.size), bel⟩)
end Go.Proofs.Ytmnlinclbnbpoaa
