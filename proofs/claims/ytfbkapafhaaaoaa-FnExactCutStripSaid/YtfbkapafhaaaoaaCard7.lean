/- The contract of the reference's CutStrip. -/
import Derived.Test.YtfbkapafhaaaoaaCard6
namespace Go.Proofs.Ytfbkapafhaaaoaa
open Go.ChangeShapes Go.WideShapes Go.ChangeAt Go.RowKit
set_option linter.unusedVariables false

theorem Reads.take_ {w : World} {B n k : Nat} {A : Option Addr} {xs : List Value} (h : Reads w B 1 A n xs) (hk : k ≤ n) : Reads w B 1 A k (xs.take k) := by
  have h1 := h.1
  refine ⟨by rw [List.length_take]; omega, fun h0 => ?_⟩
  obtain ⟨ad, e, hb, hc⟩ := h.2 (by omega)
  refine ⟨ad, e, hb, fun j u hu => hc j u ?_⟩
  rw [List.getElem?_take] at hu
  split at hu
  · exact hu
  · cases hu
theorem cardOk_cut {d f : Int} {ss : List ByteArray} {K : Nat} (h : cardOk d f ss = true) (hK : K < ss.length) : cardOk d f (ss.take K ++ ss.drop (K + 1)) = decide (2 ≤ ss.length) := by
  have hlen : (ss.take K ++ ss.drop (K + 1)).length = ss.length - 1 := by rw [List.length_append, List.length_take, List.length_drop]; omega
  unfold cardOk at h ⊢
  rw [hlen]
  simp only [Bool.and_eq_true] at h
  obtain ⟨⟨h1, h2⟩, h3, h4⟩ := h
  have h5 : (ss.take K ++ ss.drop (K + 1)).all (stripOf d f) = true := by
    rw [List.all_eq_true] at h4 ⊢
    intro x hx
    rcases List.mem_append.1 hx with h | h
    · exact h4 x (List.mem_of_mem_take h)
    · exact h4 x (List.mem_of_mem_drop h)
  rw [h1, h2, h5]
  have h6 := inB_iff.1 h3
  by_cases hn : 2 ≤ ss.length
  · rw [decide_eq_true hn]
    have : inB ((ss.length - 1 : Nat) : Int) 1 10 = true := inB_iff.2 (by omega)
    rw [this]; rfl
  · rw [decide_eq_false hn]
    have : inB ((ss.length - 1 : Nat) : Int) 1 10 = false := by
      rw [Bool.eq_false_iff]; intro h; have := inB_iff.1 h; omega
    rw [this]; rfl

theorem read_cut {w : World} {B n c K : Nat} {ad : Addr} {xs : List Value} (hcK : ¬ c = K + 1) (h : Reads w B 1 (if c = K + 1 then some ad else (some ad).map (·.add ((K + 1) * 1))) (n - (K + 1)) (xs.drop ((K + 1) * 1))) :
    Reads w B 1 (some { block := ad.block, off := ad.off + (K + 1) }) (n - (K + 1)) (xs.drop (K + 1)) := by
  rw [if_neg hcK, Nat.mul_one] at h
  have ha : ad.add (K + 1) = { block := ad.block, off := ad.off + (K + 1) } := by unfold Addr.add; rw [if_neg (by omega)]
  simpa [ha] using h

set_option maxHeartbeats 1000000 in
theorem s_CutStrip (d f : Int) (B : Nat) (A : Option Addr) (n c : Nat) (ss : List ByteArray) (k : Int) (w : World) (hS : Strs w B A n ss) (hB : B ≤ w.heap.size) (hnc : n ≤ c) (hc : c ≤ 9223372036854775807) :
    Calls Try.prog 22 #[.agg #[.int .i64 d, .int .i64 f, .slice A n c], .int .i64 k] w (FreshCardB w.heap.size d f (cutAt d f ss k).1 (cutAt d f ss k).2 w) := by
  have hn := hS.nb
  have hl := hS.len
  have HL := Lib.hid hl
  have hS2 := (hS.alloc hB (.cells #[.int .i64 d, .int .i64 f, .slice A n c] 34)).alloc (by simp; omega) (.cells #[.int .i64 0, .int .i64 0, .slice none 0 0] 34)
  by_cases hh : (cardOk d f ss && inB k 0 ((n : Int) - 1)) = true ∧ 2 ≤ n
  · obtain ⟨hh, hn2⟩ := hh
    obtain ⟨hck, hk⟩ : cardOk d f ss = true ∧ inB k 0 ((n : Int) - 1) = true := by simpa using hh
    obtain ⟨hk0, hk1⟩ := inB_iff.1 hk
    obtain ⟨K, rfl⟩ := Int.eq_ofNat_of_zero_le hk0
    have hKn : K < n := by omega
    have hKn1 : K + 1 ≤ n := hKn
    have hk64 : IntKind.i64.wrap ((K : Int) + 1) = (K : Int) + 1 := by rw [IntWalk.i64_in _ (by omega)]
    have hi0 : (0 : Int) ≤ (K : Int) := Int.natCast_nonneg _
    have hi1 : (K : Int) ≤ (c : Int) := by omega
    have hi2 : (0 : Int) ≤ (K : Int) + 1 := by omega
    have hi3 : (K : Int) + 1 ≤ (n : Int) := by omega
    have hi4 : (n : Int) ≤ (c : Int) := by omega
    have hi5 : (K : Int) ≤ (n : Int) := by omega
    have hi6 : ((K : Int) + 1).toNat = K + 1 := by omega
    obtain ⟨ts, hts⟩ : ∃ ts, ts = ss.take K ++ ss.drop (K + 1) := ⟨_, rfl⟩
    have HP : Hid (cutAt d f ss K = (ts, true)) := by
      unfold Hid cutAt; rw [hl, hh, Int.toNat_natCast, cardOk_cut hck (by omega), hts, decide_eq_true (by omega)]; rfl
    have hone1 : ∀ u ∈ (ss.map Value.string).take K, u.oneCell' = true := by
      intro u hu; obtain ⟨s, _, rfl⟩ := List.mem_map.1 (List.mem_of_mem_take hu); rfl
    have hone2 : ∀ u ∈ (ss.map Value.string).drop (K + 1), u.oneCell' = true := by
      intro u hu; obtain ⟨s, _, rfl⟩ := List.mem_map.1 (List.mem_of_mem_drop hu); rfl
    have HTS := Lib.hid hts
    obtain ⟨i0, hii, hz0, hz1, hz2⟩ := info_parts info_str
    have hne1 : ((n : Int) == 1) = false := by rw [beq_eq_false_iff_ne]; omega
    obtain ⟨_, ad, rfl, hab, hcx, _⟩ := hS.at_ (k := 0) (by omega)
    clear hl hts hcx
    by_cases hcK : c = K + 1
    · have hcT : (c = K + 1) = True := eq_true hcK
      have HCK := Lib.hid hcK
      clear hcK
      go_enter Try.func22, Try.ntmps22
      go_wp2_with (first | (go_at_call 27; refine (s_CardOk _ _ _ _ _ ss _ (hS2.more (by simp; omega))).mono ?_; rintro e w1 ⟨rfl, hb1⟩; obtain ⟨hcb, hfb⟩ := bcell hb1; have hz_w1_0 : w.heap.size < w1.heap.size := (by have hzz := hb1.size; (try simp at hzz); omega); have hy_w1_0 := Nat.le_of_lt hz_w1_0; have hz_w1_1 : w.heap.size + 1 < w1.heap.size := (by have hzz := hb1.size; (try simp at hzz); omega); have hy_w1_1 := Nat.le_of_lt hz_w1_1; have hS3 := hS2.below (hb1.mono (by simp; omega))) | (go_at_call 24; refine (s_l01In _ _ _ _).mono ?_; rintro e w' ⟨rfl, rfl⟩))
      go_region_held3 (fun W => (∀ b o, b < w.heap.size + 1 → W.cell? ⟨b, o, none⟩ = (w1).cell? ⟨b, o, none⟩) ∧ (∀ b o, b < w.heap.size + 1 → W.frozen? ⟨b, o, none⟩ = (w1).frozen? ⟨b, o, none⟩) ∧ Below (w.heap.size + 1) (w1) W) (exact keep_of (by repeat (first | exact Below.refl _ _ | assumption | exact (‹_ ∧ _ ∧ Below _ _ _›).2.2 | refine below_drewN ?_ _ | refine Below.drew ?_ | refine Below.alloc ?_ (by first | exact Nat.le_refl _ | (simp; done) | omega | (simp; omega) | exact (‹_ ∧ _ ∧ Below _ _ _›).2.2.size) _ | refine Below.setCell ?_ (by first | exact Nat.le_refl _ | (simp; done) | omega | (simp; omega) | exact (‹_ ∧ _ ∧ Below _ _ _›).2.2.size) _ | refine Below.trans ?_ (Below.mono (by assumption) (by first | exact Nat.le_refl _ | (simp; done) | omega | (simp; omega) | exact (‹_ ∧ _ ∧ Below _ _ _›).2.2.size))))) (first | (refine step_append_N _ rfl (.tmp 30) (.tmp 34) _ rfl w1.heap.size 9 i0 _ 1 16 Try.underlying30 hii hz0 hz1 hz2 rfl (by omega) (.slice (some ⟨w1.heap.size, 0, none⟩) 0 0) 0 [] rfl (made_at w1 _ _ rfl (Nat.le_refl _)).drew B (some ad) K c _ rfl (((hS3.rd.alloc (by omega) _).drew).take_ (by omega)) hone1 ?_ ?_ ?_ K ((ss.map Value.string).take K) (Nat.zero_add _) rfl ?_; (unfold maxLen; omega); omega; (simp); intro A2 c2 w2 ho2 hb2; have hz_w2_0 : w.heap.size < w2.heap.size := (by have hzz := hb2.size; (try simp at hzz); omega); have hy_w2_0 := Nat.le_of_lt hz_w2_0; have hz_w2_1 : w.heap.size + 1 < w2.heap.size := (by have hzz := hb2.size; (try simp at hzz); omega); have hy_w2_1 := Nat.le_of_lt hz_w2_1; (have hz22 : w1.heap.size ≤ w2.heap.size := (by have hzz := hb2.size; (try simp at hzz); omega))) | (refine step_append_N _ rfl (.tmp 35) (.tmp 40) _ rfl w1.heap.size 9 i0 _ 1 16 Try.underlying30 hii hz0 hz1 hz2 rfl (by omega) (.slice A2 K c2) K _ rfl ho2 B (some ad) (n - (K + 1)) (c - (K + 1)) [] (by rfl) ?_ (by intro u hu; cases hu) ?_ ?_ ?_ ts.length (ts.map Value.string) ?_ ?_ ?_; (exact ⟨by have := HCK.out; show 0 = (n - (K + 1)) * 1; omega, fun h0 => absurd h0 (by have := HCK.out; omega)⟩); (unfold maxLen; omega); omega; (omega); (have := HL.out; have := HCK.out; have h := congrArg List.length HTS.out; rw [List.length_append, List.length_take, List.length_drop] at h; omega); (rw [HTS.out, List.map_append, List.map_take, List.map_drop, List.drop_eq_nil_of_le (by rw [List.length_map]; have := HL.out; have := HCK.out; omega)]); intro A3 c3 w3 ho3 hb3; (have hb13 : Below w1.heap.size w1 w3 := (by repeat (first | exact Below.refl _ _ | assumption | exact (‹_ ∧ _ ∧ Below _ _ _›).2.2 | refine below_drewN ?_ _ | refine Below.drew ?_ | refine Below.alloc ?_ (by first | exact Nat.le_refl _ | (simp; done) | omega | (simp; omega) | exact (‹_ ∧ _ ∧ Below _ _ _›).2.2.size) _ | refine Below.setCell ?_ (by first | exact Nat.le_refl _ | (simp; done) | omega | (simp; omega) | exact (‹_ ∧ _ ∧ Below _ _ _›).2.2.size) _ | refine Below.trans ?_ (Below.mono (by assumption) (by first | exact Nat.le_refl _ | (simp; done) | omega | (simp; omega) | exact (‹_ ∧ _ ∧ Below _ _ _›).2.2.size))))); obtain ⟨hcb3, hfb3⟩ := bcellB hb13; have hz_w3_0 : w.heap.size < w3.heap.size := (by have hzz := hb13.size; (try simp at hzz); omega); have hy_w3_0 := Nat.le_of_lt hz_w3_0; have hz_w3_1 : w.heap.size + 1 < w3.heap.size := (by have hzz := hb13.size; (try simp at hzz); omega); have hy_w3_1 := Nat.le_of_lt hz_w3_1))
      go_wp2
      refine bodyPost_ret (v := .tuple #[.agg #[.int .i64 d, .int .i64 f, .slice A3 ts.length c3], .bool true]) (by simp [results, Try.results22, go_sem, *]) rfl ?_
      rw [HP.out]
      exact ⟨A3, c3, rfl, own_up ho3 (by repeat (first | exact Upper.refl _ _ | refine Upper.drew ?_ | refine Upper.drewN ?_ _ | refine Upper.setCell ?_ (by first | exact Nat.le_refl _ | (simp; done) | omega | (simp; omega) | exact (‹_ ∧ _ ∧ Below _ _ _›).2.2.size) _ | refine Upper.alloc ?_ _ | refine Upper.below ?_ (by assumption))) (by first | exact Nat.le_refl _ | (simp; done) | omega | (simp; omega) | exact (‹_ ∧ _ ∧ Below _ _ _›).2.2.size), (by repeat (first | exact Below.refl _ _ | assumption | exact (‹_ ∧ _ ∧ Below _ _ _›).2.2 | refine below_drewN ?_ _ | refine Below.drew ?_ | refine Below.alloc ?_ (by first | exact Nat.le_refl _ | (simp; done) | omega | (simp; omega) | exact (‹_ ∧ _ ∧ Below _ _ _›).2.2.size) _ | refine Below.setCell ?_ (by first | exact Nat.le_refl _ | (simp; done) | omega | (simp; omega) | exact (‹_ ∧ _ ∧ Below _ _ _›).2.2.size) _ | refine Below.trans ?_ (Below.mono (by assumption) (by first | exact Nat.le_refl _ | (simp; done) | omega | (simp; omega) | exact (‹_ ∧ _ ∧ Below _ _ _›).2.2.size))))⟩
    · go_enter Try.func22, Try.ntmps22
      go_wp2_with (first | (go_at_call 27; refine (s_CardOk _ _ _ _ _ ss _ (hS2.more (by simp; omega))).mono ?_; rintro e w1 ⟨rfl, hb1⟩; obtain ⟨hcb, hfb⟩ := bcell hb1; have hz_w1_0 : w.heap.size < w1.heap.size := (by have hzz := hb1.size; (try simp at hzz); omega); have hy_w1_0 := Nat.le_of_lt hz_w1_0; have hz_w1_1 : w.heap.size + 1 < w1.heap.size := (by have hzz := hb1.size; (try simp at hzz); omega); have hy_w1_1 := Nat.le_of_lt hz_w1_1; have hS3 := hS2.below (hb1.mono (by simp; omega))) | (go_at_call 24; refine (s_l01In _ _ _ _).mono ?_; rintro e w' ⟨rfl, rfl⟩))
      go_region_held3 (fun W => (∀ b o, b < w.heap.size + 1 → W.cell? ⟨b, o, none⟩ = (w1).cell? ⟨b, o, none⟩) ∧ (∀ b o, b < w.heap.size + 1 → W.frozen? ⟨b, o, none⟩ = (w1).frozen? ⟨b, o, none⟩) ∧ Below (w.heap.size + 1) (w1) W) (exact keep_of (by repeat (first | exact Below.refl _ _ | assumption | exact (‹_ ∧ _ ∧ Below _ _ _›).2.2 | refine below_drewN ?_ _ | refine Below.drew ?_ | refine Below.alloc ?_ (by first | exact Nat.le_refl _ | (simp; done) | omega | (simp; omega) | exact (‹_ ∧ _ ∧ Below _ _ _›).2.2.size) _ | refine Below.setCell ?_ (by first | exact Nat.le_refl _ | (simp; done) | omega | (simp; omega) | exact (‹_ ∧ _ ∧ Below _ _ _›).2.2.size) _ | refine Below.trans ?_ (Below.mono (by assumption) (by first | exact Nat.le_refl _ | (simp; done) | omega | (simp; omega) | exact (‹_ ∧ _ ∧ Below _ _ _›).2.2.size))))) (first | (refine step_append_N _ rfl (.tmp 30) (.tmp 34) _ rfl w1.heap.size 9 i0 _ 1 16 Try.underlying30 hii hz0 hz1 hz2 rfl (by omega) (.slice (some ⟨w1.heap.size, 0, none⟩) 0 0) 0 [] rfl (made_at w1 _ _ rfl (Nat.le_refl _)).drew B (some ad) K c _ rfl (((hS3.rd.alloc (by omega) _).drew).take_ (by omega)) hone1 ?_ ?_ ?_ K ((ss.map Value.string).take K) (Nat.zero_add _) rfl ?_; (unfold maxLen; omega); omega; (simp); intro A2 c2 w2 ho2 hb2; have hz_w2_0 : w.heap.size < w2.heap.size := (by have hzz := hb2.size; (try simp at hzz); omega); have hy_w2_0 := Nat.le_of_lt hz_w2_0; have hz_w2_1 : w.heap.size + 1 < w2.heap.size := (by have hzz := hb2.size; (try simp at hzz); omega); have hy_w2_1 := Nat.le_of_lt hz_w2_1; (have hz22 : w1.heap.size ≤ w2.heap.size := (by have hzz := hb2.size; (try simp at hzz); omega))) | (refine step_append_N _ rfl (.tmp 35) (.tmp 40) _ rfl w1.heap.size 9 i0 _ 1 16 Try.underlying30 hii hz0 hz1 hz2 rfl (by omega) (.slice A2 K c2) K _ rfl ho2 B (some { block := ad.block, off := ad.off + (K + 1) }) (n - (K + 1)) (c - (K + 1)) ((ss.map Value.string).drop (K + 1)) (by rfl) ?_ hone2 ?_ ?_ ?_ ts.length (ts.map Value.string) ?_ ?_ ?_; (have hcut := Reads.cut (k := K + 1) (cap := c) (((hS3.rd.alloc (by omega) (.cells #[] 9)).drew).below (Below.mono hb2 (by omega))) hKn1 hnc; exact read_cut hcK hcut); (unfold maxLen; omega); omega; (omega); (have := HL.out; have h := congrArg List.length HTS.out; rw [List.length_append, List.length_take, List.length_drop] at h; omega); (rw [HTS.out, List.map_append, List.map_take, List.map_drop]); intro A3 c3 w3 ho3 hb3; (have hb13 : Below w1.heap.size w1 w3 := (by repeat (first | exact Below.refl _ _ | assumption | exact (‹_ ∧ _ ∧ Below _ _ _›).2.2 | refine below_drewN ?_ _ | refine Below.drew ?_ | refine Below.alloc ?_ (by first | exact Nat.le_refl _ | (simp; done) | omega | (simp; omega) | exact (‹_ ∧ _ ∧ Below _ _ _›).2.2.size) _ | refine Below.setCell ?_ (by first | exact Nat.le_refl _ | (simp; done) | omega | (simp; omega) | exact (‹_ ∧ _ ∧ Below _ _ _›).2.2.size) _ | refine Below.trans ?_ (Below.mono (by assumption) (by first | exact Nat.le_refl _ | (simp; done) | omega | (simp; omega) | exact (‹_ ∧ _ ∧ Below _ _ _›).2.2.size))))); obtain ⟨hcb3, hfb3⟩ := bcellB hb13; have hz_w3_0 : w.heap.size < w3.heap.size := (by have hzz := hb13.size; (try simp at hzz); omega); have hy_w3_0 := Nat.le_of_lt hz_w3_0; have hz_w3_1 : w.heap.size + 1 < w3.heap.size := (by have hzz := hb13.size; (try simp at hzz); omega); have hy_w3_1 := Nat.le_of_lt hz_w3_1))
      go_wp2
      refine bodyPost_ret (v := .tuple #[.agg #[.int .i64 d, .int .i64 f, .slice A3 ts.length c3], .bool true]) (by simp [results, Try.results22, go_sem, *]) rfl ?_
      rw [HP.out]
      exact ⟨A3, c3, rfl, own_up ho3 (by repeat (first | exact Upper.refl _ _ | refine Upper.drew ?_ | refine Upper.drewN ?_ _ | refine Upper.setCell ?_ (by first | exact Nat.le_refl _ | (simp; done) | omega | (simp; omega) | exact (‹_ ∧ _ ∧ Below _ _ _›).2.2.size) _ | refine Upper.alloc ?_ _ | refine Upper.below ?_ (by assumption))) (by first | exact Nat.le_refl _ | (simp; done) | omega | (simp; omega) | exact (‹_ ∧ _ ∧ Below _ _ _›).2.2.size), (by repeat (first | exact Below.refl _ _ | assumption | exact (‹_ ∧ _ ∧ Below _ _ _›).2.2 | refine below_drewN ?_ _ | refine Below.drew ?_ | refine Below.alloc ?_ (by first | exact Nat.le_refl _ | (simp; done) | omega | (simp; omega) | exact (‹_ ∧ _ ∧ Below _ _ _›).2.2.size) _ | refine Below.setCell ?_ (by first | exact Nat.le_refl _ | (simp; done) | omega | (simp; omega) | exact (‹_ ∧ _ ∧ Below _ _ _›).2.2.size) _ | refine Below.trans ?_ (Below.mono (by assumption) (by first | exact Nat.le_refl _ | (simp; done) | omega | (simp; omega) | exact (‹_ ∧ _ ∧ Below _ _ _›).2.2.size))))⟩
  · cases hc0 : cardOk d f ss
    · have HP : Hid (cutAt d f ss k = (ss, false)) := by unfold Hid cutAt; rw [hc0]; rfl
      clear hh hl
      go_enter Try.func22, Try.ntmps22
      go_wp2_with (first | (go_at_call 27; refine (s_CardOk _ _ _ _ _ ss _ (hS2.more (by simp; omega))).mono ?_; rintro e w1 ⟨rfl, hb1⟩; obtain ⟨hcb, hfb⟩ := bcell hb1; have hz_w1_0 : w.heap.size < w1.heap.size := (by have hzz := hb1.size; (try simp at hzz); omega); have hy_w1_0 := Nat.le_of_lt hz_w1_0; have hz_w1_1 : w.heap.size + 1 < w1.heap.size := (by have hzz := hb1.size; (try simp at hzz); omega); have hy_w1_1 := Nat.le_of_lt hz_w1_1; have hS3 := hS2.below (hb1.mono (by simp; omega))) | (go_at_call 24; refine (s_l01In _ _ _ _).mono ?_; rintro e w' ⟨rfl, rfl⟩) | (go_at_call 35; refine (s_l05Copy _ _ B _ _ _ ss _ hS3 (by omega)).mono ?_; rintro e w2 ⟨A2, c2, rfl, ho2, hb2⟩; obtain ⟨hcb2, hfb2⟩ := bcell hb2; have hz_w2_0 : w.heap.size < w2.heap.size := (by have hzz := hb2.size; (try simp at hzz); omega); have hy_w2_0 := Nat.le_of_lt hz_w2_0; have hz_w2_1 : w.heap.size + 1 < w2.heap.size := (by have hzz := hb2.size; (try simp at hzz); omega); have hy_w2_1 := Nat.le_of_lt hz_w2_1))
      refine bodyPost_ret (v := .tuple #[.agg #[.int .i64 d, .int .i64 f, .slice A2 ss.length c2], .bool false]) (by simp [results, Try.results22, go_sem, *]) rfl ?_
      rw [HP.out]
      exact ⟨A2, c2, rfl, own_up ho2 (by repeat (first | exact Upper.refl _ _ | refine Upper.drew ?_ | refine Upper.drewN ?_ _ | refine Upper.setCell ?_ (by first | exact Nat.le_refl _ | (simp; done) | omega | (simp; omega) | exact (‹_ ∧ _ ∧ Below _ _ _›).2.2.size) _ | refine Upper.alloc ?_ _ | refine Upper.below ?_ (by assumption))) (by first | exact Nat.le_refl _ | (simp; done) | omega | (simp; omega) | exact (‹_ ∧ _ ∧ Below _ _ _›).2.2.size), (by repeat (first | exact Below.refl _ _ | assumption | exact (‹_ ∧ _ ∧ Below _ _ _›).2.2 | refine below_drewN ?_ _ | refine Below.drew ?_ | refine Below.alloc ?_ (by first | exact Nat.le_refl _ | (simp; done) | omega | (simp; omega) | exact (‹_ ∧ _ ∧ Below _ _ _›).2.2.size) _ | refine Below.setCell ?_ (by first | exact Nat.le_refl _ | (simp; done) | omega | (simp; omega) | exact (‹_ ∧ _ ∧ Below _ _ _›).2.2.size) _ | refine Below.trans ?_ (Below.mono (by assumption) (by first | exact Nat.le_refl _ | (simp; done) | omega | (simp; omega) | exact (‹_ ∧ _ ∧ Below _ _ _›).2.2.size))))⟩
    · cases hk : inB k 0 ((n : Int) - 1)
      · have HP : Hid (cutAt d f ss k = (ss, false)) := by unfold Hid cutAt; rw [hc0, hl, hk]; rfl
        clear hh hl
        go_enter Try.func22, Try.ntmps22
        go_wp2_with (first | (go_at_call 27; refine (s_CardOk _ _ _ _ _ ss _ (hS2.more (by simp; omega))).mono ?_; rintro e w1 ⟨rfl, hb1⟩; obtain ⟨hcb, hfb⟩ := bcell hb1; have hz_w1_0 : w.heap.size < w1.heap.size := (by have hzz := hb1.size; (try simp at hzz); omega); have hy_w1_0 := Nat.le_of_lt hz_w1_0; have hz_w1_1 : w.heap.size + 1 < w1.heap.size := (by have hzz := hb1.size; (try simp at hzz); omega); have hy_w1_1 := Nat.le_of_lt hz_w1_1; have hS3 := hS2.below (hb1.mono (by simp; omega))) | (go_at_call 24; refine (s_l01In _ _ _ _).mono ?_; rintro e w' ⟨rfl, rfl⟩) | (go_at_call 35; refine (s_l05Copy _ _ B _ _ _ ss _ hS3 (by omega)).mono ?_; rintro e w2 ⟨A2, c2, rfl, ho2, hb2⟩; obtain ⟨hcb2, hfb2⟩ := bcell hb2; have hz_w2_0 : w.heap.size < w2.heap.size := (by have hzz := hb2.size; (try simp at hzz); omega); have hy_w2_0 := Nat.le_of_lt hz_w2_0; have hz_w2_1 : w.heap.size + 1 < w2.heap.size := (by have hzz := hb2.size; (try simp at hzz); omega); have hy_w2_1 := Nat.le_of_lt hz_w2_1))
        refine bodyPost_ret (v := .tuple #[.agg #[.int .i64 d, .int .i64 f, .slice A2 ss.length c2], .bool false]) (by simp [results, Try.results22, go_sem, *]) rfl ?_
        rw [HP.out]
        exact ⟨A2, c2, rfl, own_up ho2 (by repeat (first | exact Upper.refl _ _ | refine Upper.drew ?_ | refine Upper.drewN ?_ _ | refine Upper.setCell ?_ (by first | exact Nat.le_refl _ | (simp; done) | omega | (simp; omega) | exact (‹_ ∧ _ ∧ Below _ _ _›).2.2.size) _ | refine Upper.alloc ?_ _ | refine Upper.below ?_ (by assumption))) (by first | exact Nat.le_refl _ | (simp; done) | omega | (simp; omega) | exact (‹_ ∧ _ ∧ Below _ _ _›).2.2.size), (by repeat (first | exact Below.refl _ _ | assumption | exact (‹_ ∧ _ ∧ Below _ _ _›).2.2 | refine below_drewN ?_ _ | refine Below.drew ?_ | refine Below.alloc ?_ (by first | exact Nat.le_refl _ | (simp; done) | omega | (simp; omega) | exact (‹_ ∧ _ ∧ Below _ _ _›).2.2.size) _ | refine Below.setCell ?_ (by first | exact Nat.le_refl _ | (simp; done) | omega | (simp; omega) | exact (‹_ ∧ _ ∧ Below _ _ _›).2.2.size) _ | refine Below.trans ?_ (Below.mono (by assumption) (by first | exact Nat.le_refl _ | (simp; done) | omega | (simp; omega) | exact (‹_ ∧ _ ∧ Below _ _ _›).2.2.size))))⟩
      · obtain ⟨hk0, hk1⟩ := inB_iff.1 hk
        obtain ⟨K, rfl⟩ := Int.eq_ofNat_of_zero_le hk0
        rw [hc0, hk] at hh
        have hn2 : n = 1 := by
          have : ¬ 2 ≤ n := fun h => hh ⟨rfl, h⟩
          omega
        have HP : Hid (cutAt d f ss K = (ss, false)) := by
          unfold Hid cutAt; rw [hl, hc0, hk, Int.toNat_natCast, cardOk_cut hc0 (by omega), decide_eq_false (by omega)]; rfl
        have hne1 : ((n : Int) == 1) = true := by rw [beq_iff_eq]; omega
        have HN2 := Lib.hid hn2
        clear hh hl hn2
        go_enter Try.func22, Try.ntmps22
        go_wp2_with (first | (go_at_call 27; refine (s_CardOk _ _ _ _ _ ss _ (hS2.more (by simp; omega))).mono ?_; rintro e w1 ⟨rfl, hb1⟩; obtain ⟨hcb, hfb⟩ := bcell hb1; have hz_w1_0 : w.heap.size < w1.heap.size := (by have hzz := hb1.size; (try simp at hzz); omega); have hy_w1_0 := Nat.le_of_lt hz_w1_0; have hz_w1_1 : w.heap.size + 1 < w1.heap.size := (by have hzz := hb1.size; (try simp at hzz); omega); have hy_w1_1 := Nat.le_of_lt hz_w1_1; have hS3 := hS2.below (hb1.mono (by simp; omega))) | (go_at_call 24; refine (s_l01In _ _ _ _).mono ?_; rintro e w' ⟨rfl, rfl⟩) | (go_at_call 35; refine (s_l05Copy _ _ B _ _ _ ss _ hS3 (by omega)).mono ?_; rintro e w2 ⟨A2, c2, rfl, ho2, hb2⟩; obtain ⟨hcb2, hfb2⟩ := bcell hb2; have hz_w2_0 : w.heap.size < w2.heap.size := (by have hzz := hb2.size; (try simp at hzz); omega); have hy_w2_0 := Nat.le_of_lt hz_w2_0; have hz_w2_1 : w.heap.size + 1 < w2.heap.size := (by have hzz := hb2.size; (try simp at hzz); omega); have hy_w2_1 := Nat.le_of_lt hz_w2_1))
        refine bodyPost_ret (v := .tuple #[.agg #[.int .i64 d, .int .i64 f, .slice A2 ss.length c2], .bool false]) (by simp [results, Try.results22, go_sem, *]) rfl ?_
        rw [HP.out]
        exact ⟨A2, c2, rfl, own_up ho2 (by repeat (first | exact Upper.refl _ _ | refine Upper.drew ?_ | refine Upper.drewN ?_ _ | refine Upper.setCell ?_ (by first | exact Nat.le_refl _ | (simp; done) | omega | (simp; omega) | exact (‹_ ∧ _ ∧ Below _ _ _›).2.2.size) _ | refine Upper.alloc ?_ _ | refine Upper.below ?_ (by assumption))) (by first | exact Nat.le_refl _ | (simp; done) | omega | (simp; omega) | exact (‹_ ∧ _ ∧ Below _ _ _›).2.2.size), (by repeat (first | exact Below.refl _ _ | assumption | exact (‹_ ∧ _ ∧ Below _ _ _›).2.2 | refine below_drewN ?_ _ | refine Below.drew ?_ | refine Below.alloc ?_ (by first | exact Nat.le_refl _ | (simp; done) | omega | (simp; omega) | exact (‹_ ∧ _ ∧ Below _ _ _›).2.2.size) _ | refine Below.setCell ?_ (by first | exact Nat.le_refl _ | (simp; done) | omega | (simp; omega) | exact (‹_ ∧ _ ∧ Below _ _ _›).2.2.size) _ | refine Below.trans ?_ (Below.mono (by assumption) (by first | exact Nat.le_refl _ | (simp; done) | omega | (simp; omega) | exact (‹_ ∧ _ ∧ Below _ _ _›).2.2.size))))⟩
end Go.Proofs.Ytfbkapafhaaaoaa
