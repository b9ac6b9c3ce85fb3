/- The contracts of CutStrip of both packages. -/
import Derived.Test.YtmnlinclbnbpoaaCard5
namespace Go.Proofs.Ytmnlinclbnbpoaa
open Go.ChangeShapes Go.WideShapes Go.ChangeAt Go.RowKit
set_option linter.unusedVariables false
set_option maxRecDepth 10000

def cutAt (d f : Int) (ss : List ByteArray) (k : Int) : List ByteArray × Bool :=
  if (cardOk d f ss && inB k 0 ((ss.length : Int) - 1)) && cardOk d f (ss.take k.toNat ++ ss.drop (k.toNat + 1)) then (ss.take k.toNat ++ ss.drop (k.toNat + 1), true) else (ss, false)

set_option maxHeartbeats 1000000 in
theorem i_CutStrip (d f : Int) (B : Nat) (A : Option Addr) (n c : Nat) (ss : List ByteArray) (k : Int) (w : World) (hS : Strs w B A n ss) (hB : B ≤ w.heap.size) :
    Calls Try.prog 12 #[.agg #[.int .i64 d, .int .i64 f, .slice A n c], .int .i64 k] w (FreshCardB w.heap.size d f (cutAt d f ss k).1 (cutAt d f ss k).2 w) := by
  have hn := hS.nb
  have hl := hS.len
  have hS2 := (hS.alloc hB (.cells #[.int .i64 d, .int .i64 f, .slice A n c] 26)).alloc (by simp; omega) (.cells #[.int .i64 0, .int .i64 0, .slice none 0 0] 26)
  cases hh : (cardOk d f ss && inB k 0 ((n : Int) - 1))
  · have HP : cutAt d f ss k = (ss, false) := by unfold cutAt; rw [hl, hh]; rfl
    rw [HP]
    go_enter Try.func12, Try.ntmps12
    go_wp2_with (first | (go_at_call 58; refine (i_hasStrip _ _ B _ _ _ ss _ _ hS2 (by simp; omega)).mono ?_; rintro e w1 ⟨rfl, hb1⟩; obtain ⟨hcb, hfb⟩ := bcell hb1; have hz_w1_0 : w.heap.size < w1.heap.size := (by have hzz := hb1.size; (try simp at hzz); omega); have hy_w1_0 := Nat.le_of_lt hz_w1_0; have hz_w1_1 : w.heap.size + 1 < w1.heap.size := (by have hzz := hb1.size; (try simp at hzz); omega); have hy_w1_1 := Nat.le_of_lt hz_w1_1) | (go_at_call 54; refine (i_copied _ _ B _ _ _ ss _ (hS2.below (hb1.mono (by simp; omega))) (by omega)).mono ?_; rintro e w2 ⟨A1, c1, rfl, ho2, hb2⟩; obtain ⟨hcb2, hfb2⟩ := bcell hb2; have hz_w2_0 : w.heap.size < w2.heap.size := (by have hzz := hb2.size; (try simp at hzz); omega); have hy_w2_0 := Nat.le_of_lt hz_w2_0; have hz_w2_1 : w.heap.size + 1 < w2.heap.size := (by have hzz := hb2.size; (try simp at hzz); omega); have hy_w2_1 := Nat.le_of_lt hz_w2_1))
    refine bodyPost_ret (v := .tuple #[.agg #[.int .i64 d, .int .i64 f, .slice A1 ss.length c1], .bool false]) (by simp [results, Try.results12, go_sem, *]) rfl ?_
    exact ⟨A1, c1, rfl, own_up ho2 upr (by first | exact Nat.le_refl _ | (simp; done) | omega | (simp; omega) | exact (‹_ ∧ _ ∧ Below _ _ _›).2.2.size), bel⟩
  · obtain ⟨hck, hk⟩ : cardOk d f ss = true ∧ inB k 0 ((n : Int) - 1) = true := by simpa using hh
    obtain ⟨hk0, hk1⟩ := inB_iff.1 hk
    obtain ⟨K, rfl⟩ := Int.eq_ofNat_of_zero_le hk0
    have hKn : K < n := by omega
    obtain ⟨ts, hts⟩ : ∃ ts, ts = ss.take K ++ ss.drop (K + 1) := ⟨_, rfl⟩
    have hlen : ts.length + 1 = n := by rw [hts, List.length_append, List.length_take, List.length_drop]; omega
    have hsb : ∀ x ∈ ts, x.size ≤ 16777216 := by
      intro x hx
      rw [hts] at hx
      rcases List.mem_append.1 hx with h | h
      · exact hS.sb x (List.mem_of_mem_take h)
      · exact hS.sb x (List.mem_of_mem_drop h)
    have HL := Lib.hid hl
    have hlen2 : ts.length ≤ 16777216 := by omega
    have HPY : Hid (cardOk d f ts = true → cutAt d f ss K = (ts, true)) := by
      intro h; unfold cutAt; rw [hl, hh, Int.toNat_natCast, ← hts, h]; rfl
    have HPN : Hid (cardOk d f ts = false → cutAt d f ss K = (ss, false)) := by
      intro h; unfold cutAt; rw [hl, hh, Int.toNat_natCast, ← hts, h]; rfl
    have HTS := Lib.hid hts
    clear hl hck hk hlen hts
    go_enter Try.func12, Try.ntmps12
    go_wp2_with (first | (go_at_call 58; refine (i_hasStrip _ _ B _ _ _ ss _ _ hS2 (by simp; omega)).mono ?_; rintro e w1 ⟨rfl, hb1⟩; obtain ⟨hcb, hfb⟩ := bcell hb1; have hz_w1_0 : w.heap.size < w1.heap.size := (by have hzz := hb1.size; (try simp at hzz); omega); have hy_w1_0 := Nat.le_of_lt hz_w1_0; have hz_w1_1 : w.heap.size + 1 < w1.heap.size := (by have hzz := hb1.size; (try simp at hzz); omega); have hy_w1_1 := Nat.le_of_lt hz_w1_1; have hS3 := hS2.below (hb1.mono (by simp; omega))))
    have hk64 : IntKind.i64.wrap ((K : Int) + 1) = (K : Int) + 1 := by rw [IntWalk.i64_in _ (by omega)]
    cases hcs : cardOk d f ts
    · have HP := Lib.hid (HPN.out hcs)
      have HCS := Lib.hid hcs
      clear hcs
      go_region_held3 (fun W => (∀ b o, b < w.heap.size + 1 → W.cell? ⟨b, o, none⟩ = (w1).cell? ⟨b, o, none⟩) ∧ (∀ b o, b < w.heap.size + 1 → W.frozen? ⟨b, o, none⟩ = (w1).frozen? ⟨b, o, none⟩) ∧ Below (w.heap.size + 1) (w1) W) (exact keep_of bel) (first | (go_at_call 57; have hq := (‹_ ∧ _ ∧ Below _ _ _›).2.2; refine (clone_str B _ _ _ ss _ ?_ ?_).mono ?_; exact hS3.below (hq.mono (by omega)); exact Nat.le_trans (by omega) hq.size; rintro e w2 ⟨A1, c1, rfl, ho2, hb2⟩; (have hb12 : Below w1.heap.size w1 w2 := (Below.refl _ _).drew.trans hb2); have hz_w2_0 : w.heap.size < w2.heap.size := (by have hzz := hb2.size; (try simp at hzz); omega); have hy_w2_0 := Nat.le_of_lt hz_w2_0; have hz_w2_1 : w.heap.size + 1 < w2.heap.size := (by have hzz := hb2.size; (try simp at hzz); omega); have hy_w2_1 := Nat.le_of_lt hz_w2_1; obtain ⟨g, cap, hv, hbg, hglt⟩ := ho2.form (by have := HL.out; omega); (have hA : A1 = some ⟨g, 0, none⟩ := (by injection hv)); subst hA; clear hv; (have hbg2 : w1.heap.size ≤ g := (by simpa using hbg))) | (go_at_call 59; refine (del_str_ts _ g _ _ K (K + 1) ss ts _ HTS ho2 ?_ ?_ ?_).mono ?_; (have := HL.out; omega); omega; (have := HL.out; omega); rintro e w3 ⟨rfl, ho3, hg3⟩; (have hb3 := grown_below (B := w1.heap.size) hg3 (by intro k hk; injection hk; omega) (by have := hb12.size; omega)); (have hb13 := hb12.trans hb3); have hz_w3_0 : w.heap.size < w3.heap.size := (by have hzz := hb13.size; (try simp at hzz); omega); have hy_w3_0 := Nat.le_of_lt hz_w3_0; have hz_w3_1 : w.heap.size + 1 < w3.heap.size := (by have hzz := hb13.size; (try simp at hzz); omega); have hy_w3_1 := Nat.le_of_lt hz_w3_1; (have hsz3 := hg3.size)) | (go_at_call 55; refine (i_changed_no d f w3.heap.size _ _ _ _ _ _ ss ts _ ?_ ?_ ?_ HCS.out).mono ?_; exact ((hS3.below (hb13.mono (by omega))).more (by omega)); exact strs_of_own ho3 (by omega) hsb; exact Nat.le_refl _; rintro e w4 ⟨A4, c4, rfl, ho4, hb4⟩; obtain ⟨hcb4, hfb4⟩ := bcell hb4; (have hcb3 := bcellB hb13); obtain ⟨hcb3, hfb3⟩ := hcb3))
      go_wp2
      refine bodyPost_ret (v := .tuple #[.agg #[.int .i64 d, .int .i64 f, .slice A4 ss.length c4], .bool false]) (by simp [results, Try.results12, go_sem, *]) rfl ?_
      rw [HP.out]
      exact ⟨A4, c4, rfl, own_up ho4 upr (by first | exact Nat.le_refl _ | (simp; done) | omega | (simp; omega) | exact (‹_ ∧ _ ∧ Below _ _ _›).2.2.size), bel⟩
    · have HP := Lib.hid (HPY.out hcs)
      have HCS := Lib.hid hcs
      clear hcs
      go_region_held3 (fun W => (∀ b o, b < w.heap.size + 1 → W.cell? ⟨b, o, none⟩ = (w1).cell? ⟨b, o, none⟩) ∧ (∀ b o, b < w.heap.size + 1 → W.frozen? ⟨b, o, none⟩ = (w1).frozen? ⟨b, o, none⟩) ∧ Below (w.heap.size + 1) (w1) W) (exact keep_of bel) (first | (go_at_call 57; have hq := (‹_ ∧ _ ∧ Below _ _ _›).2.2; refine (clone_str B _ _ _ ss _ ?_ ?_).mono ?_; exact hS3.below (hq.mono (by omega)); exact Nat.le_trans (by omega) hq.size; rintro e w2 ⟨A1, c1, rfl, ho2, hb2⟩; (have hb12 : Below w1.heap.size w1 w2 := (Below.refl _ _).drew.trans hb2); have hz_w2_0 : w.heap.size < w2.heap.size := (by have hzz := hb2.size; (try simp at hzz); omega); have hy_w2_0 := Nat.le_of_lt hz_w2_0; have hz_w2_1 : w.heap.size + 1 < w2.heap.size := (by have hzz := hb2.size; (try simp at hzz); omega); have hy_w2_1 := Nat.le_of_lt hz_w2_1; obtain ⟨g, cap, hv, hbg, hglt⟩ := ho2.form (by have := HL.out; omega); (have hA : A1 = some ⟨g, 0, none⟩ := (by injection hv)); subst hA; clear hv; (have hbg2 : w1.heap.size ≤ g := (by simpa using hbg))) | (go_at_call 59; refine (del_str_ts _ g _ _ K (K + 1) ss ts _ HTS ho2 ?_ ?_ ?_).mono ?_; (have := HL.out; omega); omega; (have := HL.out; omega); rintro e w3 ⟨rfl, ho3, hg3⟩; (have hb3 := grown_below (B := w1.heap.size) hg3 (by intro k hk; injection hk; omega) (by have := hb12.size; omega)); (have hb13 := hb12.trans hb3); have hz_w3_0 : w.heap.size < w3.heap.size := (by have hzz := hb13.size; (try simp at hzz); omega); have hy_w3_0 := Nat.le_of_lt hz_w3_0; have hz_w3_1 : w.heap.size + 1 < w3.heap.size := (by have hzz := hb13.size; (try simp at hzz); omega); have hy_w3_1 := Nat.le_of_lt hz_w3_1; (have hsz3 := hg3.size)) | (go_at_call 55; refine (i_changed_yes d f w3.heap.size _ _ _ _ _ _ ss ts _ ?_ ?_ ?_ HCS.out).mono ?_; exact ((hS3.below (hb13.mono (by omega))).more (by omega)); exact strs_of_own ho3 (by omega) hsb; exact Nat.le_refl _; rintro e w4 ⟨rfl, hb4⟩; obtain ⟨hcb4, hfb4⟩ := bcell hb4; (have hcb3 := bcellB hb13); obtain ⟨hcb3, hfb3⟩ := hcb3))
      have ho4 := own_below ho3 hb4
      go_wp2
      refine bodyPost_ret (v := .tuple #[.agg #[.int .i64 d, .int .i64 f, .slice (some ⟨g, 0, none⟩) ts.length c1], .bool true]) (by simp [results, Try.results12, go_sem, *]) rfl ?_
      rw [HP.out]
      exact ⟨_, c1, rfl, own_up ho4 upr (by first | exact Nat.le_refl _ | (simp; done) | omega | (simp; omega) | exact (‹_ ∧ _ ∧ Below _ _ _›).2.2.size), bel⟩
end Go.Proofs.Ytmnlinclbnbpoaa
