/- The contracts of the reference's WithStrip of both packages. -/
import Derived.Test.YteffbjddgdjkmaaMem2
namespace Go.Proofs.Yteffbjddgdjkmaa
open Go.ChangeShapes Go.WideShapes Go.ChangeAt Go.RowKit
set_option linter.unusedVariables false

set_option maxHeartbeats 800000 in
theorem s_WithStrip (d f : Int) (B : Nat) (A : Option Addr) (n c : Nat) (ss : List ByteArray) (k : Int) (s : ByteArray) (w : World) (hS : Strs w B A n ss) (hB : B ≤ w.heap.size) (hs : s.size ≤ 16777216) :
    Calls Try.prog 228 #[.agg #[.int .i64 d, .int .i64 f, .slice A n c], .int .i64 k, .string s] w (FreshCardB w.heap.size d f (putAt d f ss k s).1 (putAt d f ss k s).2 w) := by
  have hn := hS.nb
  have hl := hS.len
  have hS2 := (hS.alloc hB (.cells #[.int .i64 d, .int .i64 f, .slice A n c] 26)).alloc (by simp; omega) (.cells #[.int .i64 0, .int .i64 0, .slice none 0 0] 26)
  have HL := Lib.hid hl
  cases hh : (cardOk d f ss && inB k 0 ((n : Int) - 1))
  · have HP : Hid (putAt d f ss k s = (ss, false)) := by unfold Hid putAt; rw [hl, hh]; rfl
    clear hl
    cases hc0 : cardOk d f ss
    · clear hh
      go_enter Try.func228, Try.ntmps228
      go_wp2_with (first | (go_at_call 87; refine (s_l05Copy _ _ B _ _ _ ss _ hS2 (by simp; omega)).mono ?_; rintro e w1 ⟨A1, c1, rfl, ho1, hb1⟩; obtain ⟨hcb, hfb⟩ := bcell hb1; have hz_w1_0 : w.heap.size < w1.heap.size := (by have hzz := hb1.size; (try simp at hzz); omega); have hy_w1_0 := Nat.le_of_lt hz_w1_0; have hz_w1_1 : w.heap.size + 1 < w1.heap.size := (by have hzz := hb1.size; (try simp at hzz); omega); have hy_w1_1 := Nat.le_of_lt hz_w1_1; have hS3 := hS2.below (hb1.mono (by simp; omega))) | (go_at_call 90; refine (s_CardOk _ _ _ _ _ ss _ ((hS3.alloc (by omega) _).more (by simp; omega))).mono ?_; rintro e w2 ⟨rfl, hb2⟩; obtain ⟨hcb2, hfb2⟩ := bcell hb2; have hz_w2_0 : w.heap.size < w2.heap.size := (by have hzz := hb2.size; (try simp at hzz); omega); have hy_w2_0 := Nat.le_of_lt hz_w2_0; have hz_w2_1 : w.heap.size + 1 < w2.heap.size := (by have hzz := hb2.size; (try simp at hzz); omega); have hy_w2_1 := Nat.le_of_lt hz_w2_1) | (go_at_call 93; refine (s_l01In _ _ _ _).mono ?_; rintro e w' ⟨rfl, rfl⟩))
      refine bodyPost_ret (v := .tuple #[.agg #[.int .i64 d, .int .i64 f, .slice A1 ss.length c1], .bool false]) (by simp [results, Try.results228, go_sem, *]) rfl ?_
      rw [HP.out]
      exact ⟨A1, c1, rfl, own_up ho1 upr (by first | exact Nat.le_refl _ | (simp; done) | omega | (simp; omega) | exact (‹_ ∧ _ ∧ Below _ _ _›).2.2.size), bel⟩
    · have hk : inB k 0 ((n : Int) - 1) = false := by simpa [hc0] using hh
      clear hh
      go_enter Try.func228, Try.ntmps228
      go_wp2_with (first | (go_at_call 87; refine (s_l05Copy _ _ B _ _ _ ss _ hS2 (by simp; omega)).mono ?_; rintro e w1 ⟨A1, c1, rfl, ho1, hb1⟩; obtain ⟨hcb, hfb⟩ := bcell hb1; have hz_w1_0 : w.heap.size < w1.heap.size := (by have hzz := hb1.size; (try simp at hzz); omega); have hy_w1_0 := Nat.le_of_lt hz_w1_0; have hz_w1_1 : w.heap.size + 1 < w1.heap.size := (by have hzz := hb1.size; (try simp at hzz); omega); have hy_w1_1 := Nat.le_of_lt hz_w1_1; have hS3 := hS2.below (hb1.mono (by simp; omega))) | (go_at_call 90; refine (s_CardOk _ _ _ _ _ ss _ ((hS3.alloc (by omega) _).more (by simp; omega))).mono ?_; rintro e w2 ⟨rfl, hb2⟩; obtain ⟨hcb2, hfb2⟩ := bcell hb2; have hz_w2_0 : w.heap.size < w2.heap.size := (by have hzz := hb2.size; (try simp at hzz); omega); have hy_w2_0 := Nat.le_of_lt hz_w2_0; have hz_w2_1 : w.heap.size + 1 < w2.heap.size := (by have hzz := hb2.size; (try simp at hzz); omega); have hy_w2_1 := Nat.le_of_lt hz_w2_1) | (go_at_call 93; refine (s_l01In _ _ _ _).mono ?_; rintro e w' ⟨rfl, rfl⟩))
      refine bodyPost_ret (v := .tuple #[.agg #[.int .i64 d, .int .i64 f, .slice A1 ss.length c1], .bool false]) (by simp [results, Try.results228, go_sem, *]) rfl ?_
      rw [HP.out]
      exact ⟨A1, c1, rfl, own_up ho1 upr (by first | exact Nat.le_refl _ | (simp; done) | omega | (simp; omega) | exact (‹_ ∧ _ ∧ Below _ _ _›).2.2.size), bel⟩
  · obtain ⟨hck, hk⟩ : cardOk d f ss = true ∧ inB k 0 ((n : Int) - 1) = true := by simpa using hh
    obtain ⟨hk0, hk1⟩ := inB_iff.1 hk
    obtain ⟨K, rfl⟩ := Int.eq_ofNat_of_zero_le hk0
    have hKn : K < n := by omega
    have hsb : ∀ x ∈ ss.set K s, x.size ≤ 16777216 := by
      intro x hx
      rcases List.mem_or_eq_of_mem_set hx with h | h
      · exact hS.sb x h
      · rw [h]; exact hs
    have HPY : Hid (cardOk d f (ss.set K s) = true → putAt d f ss K s = (ss.set K s, true)) := by
      intro h; unfold putAt; rw [hl, hh]; simp [h]
    have HPN : Hid (cardOk d f (ss.set K s) = false → putAt d f ss K s = (ss, false)) := by
      intro h; unfold putAt; rw [hl, hh]; simp [h]
    clear hl hh
    have tok1 : True := trivial
    go_enter Try.func228, Try.ntmps228
    go_wp2_with (first | (go_at_call 87; refine (s_l05Copy _ _ B _ _ _ ss _ hS2 (by simp; omega)).mono ?_; rintro e w1 ⟨A1, c1, rfl, ho1, hb1⟩; obtain ⟨hcb, hfb⟩ := bcell hb1; have hz_w1_0 : w.heap.size < w1.heap.size := (by have hzz := hb1.size; (try simp at hzz); omega); have hy_w1_0 := Nat.le_of_lt hz_w1_0; have hz_w1_1 : w.heap.size + 1 < w1.heap.size := (by have hzz := hb1.size; (try simp at hzz); omega); have hy_w1_1 := Nat.le_of_lt hz_w1_1; have hS3 := hS2.below (hb1.mono (by simp; omega)); have hKl : K < ss.length := (by have := HL.out; omega); obtain ⟨g, cap, hv, hbg, hglt⟩ := ho1.form (by omega); (have hA : A1 = some ⟨g, 0, none⟩ := (by injection hv)); subst hA; clear hv; have hge_g : w.heap.size + 2 ≤ g := (by have hzz := hbg; (try simp at hzz); omega); have hne_g_0 : g ≠ w.heap.size := (by have hzz := hbg; (try simp at hzz); omega); have hne2_g_0 := Ne.symm hne_g_0; have hne_g_1 : g ≠ w.heap.size + 1 := (by have hzz := hbg; (try simp at hzz); omega); have hne2_g_1 := Ne.symm hne_g_1) | (go_at_call 90; have _t := tok1; refine (s_CardOk _ _ _ _ _ ss _ ((hS3.alloc (by omega) _).more (by simp; omega))).mono ?_; rintro e w2 ⟨rfl, hb2⟩; obtain ⟨hcb2, hfb2⟩ := bcell hb2; have hz_w2_0 : w.heap.size < w2.heap.size := (by have hzz := hb2.size; (try simp at hzz); omega); have hy_w2_0 := Nat.le_of_lt hz_w2_0; have hz_w2_1 : w.heap.size + 1 < w2.heap.size := (by have hzz := hb2.size; (try simp at hzz); omega); have hy_w2_1 := Nat.le_of_lt hz_w2_1; have ho2 := own_below (ho1.alloc _) hb2; obtain ⟨u1, hc1⟩ := own_cell ho1 (j := K) hKl; have hf1 := ho1.frozenAt K; have hgle : g ≤ w1.heap.size := Nat.le_of_lt hglt; have hzz2 : w1.heap.size < w2.heap.size := (by have hq := hb2.size; simp at hq; omega); clear _t tok1) | (go_at_call 93; refine (s_l01In _ _ _ _).mono ?_; rintro e w' ⟨rfl, rfl⟩))
    have ho3 := (ho2.stored K (.string s)).1
    rw [set_map] at ho3
    have hsz3 : (w2.setCell ⟨g, K, none⟩ (.string s)).heap.size = w2.heap.size := by simp [World.setCell]
    have hT3 : Strs (w2.setCell ⟨g, K, none⟩ (.string s)) w2.heap.size (some ⟨g, 0, none⟩) ss.length (ss.set K s) := by
      have h := strs_of_own ho3 (by have := HL.out; omega) hsb
      rw [hsz3] at h; exact h
    have hS4 : Strs (w2.setCell ⟨g, K, none⟩ (.string s)) B A n ss := ((hS3.alloc (by omega) _).below (hb2.mono (by simp; omega))).setCell (by have := hb1.size; simp at this; show B ≤ g; simp at hbg; omega) _
    have hlen : (ss.set K s).length = ss.length := List.length_set
    have HLEN := Lib.hid hlen
    clear hlen hsz3
    cases hcs : cardOk d f (ss.set K s)
    · have HP := Lib.hid (HPN.out hcs)
      refine (s_CardOk _ _ _ _ _ (ss.set K s) _ (hT3.more (by simp [World.setCell]))).mono ?_
      rintro e w3 ⟨rfl, hb4⟩
      obtain ⟨hcb4, hfb4⟩ := bcell hb4
      have hz_w3_0 : w.heap.size < w3.heap.size := (by have hzz := hb4.size; (try simp at hzz); omega); have hy_w3_0 := Nat.le_of_lt hz_w3_0; have hz_w3_1 : w.heap.size + 1 < w3.heap.size := (by have hzz := hb4.size; (try simp at hzz); omega); have hy_w3_1 := Nat.le_of_lt hz_w3_1
      go_wp2_with (first | (go_at_call 87; refine (s_l05Copy _ _ B _ _ _ ss _ (hS4.below (hb4.mono (by simp [World.setCell]; omega))) (by omega)).mono ?_; rintro e w4 ⟨A4, c4, rfl, ho5, hb5⟩; obtain ⟨hcb5, hfb5⟩ := bcell hb5; have hz_w4_0 : w.heap.size < w4.heap.size := (by have hzz := hb5.size; (try simp at hzz); omega); have hy_w4_0 := Nat.le_of_lt hz_w4_0; have hz_w4_1 : w.heap.size + 1 < w4.heap.size := (by have hzz := hb5.size; (try simp at hzz); omega); have hy_w4_1 := Nat.le_of_lt hz_w4_1))
      refine bodyPost_ret (v := .tuple #[.agg #[.int .i64 d, .int .i64 f, .slice A4 ss.length c4], .bool false]) (by simp [results, Try.results228, go_sem, *]) rfl ?_
      rw [HP.out]
      exact ⟨A4, c4, rfl, own_up ho5 upr (by first | exact Nat.le_refl _ | (simp; done) | omega | (simp; omega) | exact (‹_ ∧ _ ∧ Below _ _ _›).2.2.size), bel⟩
    · have HP := Lib.hid (HPY.out hcs)
      refine (s_CardOk _ _ _ _ _ (ss.set K s) _ (hT3.more (by simp [World.setCell]))).mono ?_
      rintro e w3 ⟨rfl, hb4⟩
      obtain ⟨hcb4, hfb4⟩ := bcell hb4
      have hz_w3_0 : w.heap.size < w3.heap.size := (by have hzz := hb4.size; (try simp at hzz); omega); have hy_w3_0 := Nat.le_of_lt hz_w3_0; have hz_w3_1 : w.heap.size + 1 < w3.heap.size := (by have hzz := hb4.size; (try simp at hzz); omega); have hy_w3_1 := Nat.le_of_lt hz_w3_1
      have ho4 := own_below ho3 hb4
      go_wp2
      refine bodyPost_ret (v := .tuple #[.agg #[.int .i64 d, .int .i64 f, .slice (some ⟨g, 0, none⟩) ss.length c1], .bool true]) (by simp [results, Try.results228, go_sem, *]) rfl ?_
      rw [HP.out]
      unfold FreshCardB
      dsimp only
      rw [HLEN.out]
      exact ⟨_, c1, rfl, own_up ho4 upr (by first | exact Nat.le_refl _ | (simp; done) | omega | (simp; omega) | exact (‹_ ∧ _ ∧ Below _ _ _›).2.2.size), bel⟩
end Go.Proofs.Yteffbjddgdjkmaa
