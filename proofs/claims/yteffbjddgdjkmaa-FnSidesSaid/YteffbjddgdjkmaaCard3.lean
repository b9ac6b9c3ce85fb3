/- The contracts of changed, MirrorCard. -/
import Derived.Test.YteffbjddgdjkmaaCard2
namespace Go.Proofs.Yteffbjddgdjkmaa
open Go.ChangeShapes Go.WideShapes Go.ChangeAt Go.RowKit
set_option linter.unusedVariables false

/-- a card of the call's own, and a bool -/
def FreshCardB (base : Nat) (d f : Int) (ss : List ByteArray) (b : Bool) (w : World) (e : Ending) (w' : World) : Prop :=
  ∃ A c, e = .returned (.tuple #[.agg #[.int .i64 d, .int .i64 f, .slice A ss.length c], .bool b]) ∧ w'.ownsRow base 9 1 (.slice A ss.length c) ss.length (ss.map Value.string) ∧ Below w.heap.size w w'

set_option maxHeartbeats 400000 in
theorem i_changed_yes (d f : Int) (B : Nat) (A A2 : Option Addr) (n c n2 c2 : Nat) (ss ts : List ByteArray) (w : World) (hS : Strs w B A n ss) (hT : Strs w B A2 n2 ts) (hB : B ≤ w.heap.size) (hc : cardOk d f ts = true) :
    Calls Try.prog 206 #[.agg #[.int .i64 d, .int .i64 f, .slice A n c], .slice A2 n2 c2] w fun e w' => e = .returned (.tuple #[.agg #[.int .i64 d, .int .i64 f, .slice A2 n2 c2], .bool true]) ∧ Below w.heap.size w w' := by
  have hT3 := ((hT.alloc hB (.cells #[.int .i64 d, .int .i64 f, .slice A n c] 26)).alloc (by simp; omega) (.cells #[.int .i64 0, .int .i64 0, .slice none 0 0] 26)).alloc (by simp; omega) (.cells #[.int .i64 d, .int .i64 f, .slice A2 n2 c2] 26)
  go_enter Try.func206, Try.ntmps206
  go_wp2_with (first | (go_at_call 80; refine (i_CardOk _ _ _ _ _ ts _ ?_).mono ?_; exact hT3.more (by simp; omega); rintro e w1 ⟨rfl, hb1⟩; obtain ⟨hcb, hfb⟩ := bcell hb1))
  refine bodyPost_ret (v := .tuple #[.agg #[.int .i64 d, .int .i64 f, .slice A2 n2 c2], .bool true]) (by simp [results, Try.results206, go_sem, hcb]) rfl ?_
  exact ⟨rfl, bel⟩
set_option maxHeartbeats 400000 in
theorem i_changed_no (d f : Int) (B : Nat) (A A2 : Option Addr) (n c n2 c2 : Nat) (ss ts : List ByteArray) (w : World) (hS : Strs w B A n ss) (hT : Strs w B A2 n2 ts) (hB : B ≤ w.heap.size) (hc : cardOk d f ts = false) :
    Calls Try.prog 206 #[.agg #[.int .i64 d, .int .i64 f, .slice A n c], .slice A2 n2 c2] w (FreshCardB w.heap.size d f ss false w) := by
  have hT3 := ((hT.alloc hB (.cells #[.int .i64 d, .int .i64 f, .slice A n c] 26)).alloc (by simp; omega) (.cells #[.int .i64 0, .int .i64 0, .slice none 0 0] 26)).alloc (by simp; omega) (.cells #[.int .i64 d, .int .i64 f, .slice A2 n2 c2] 26)
  have hS3 := ((hS.alloc hB (.cells #[.int .i64 d, .int .i64 f, .slice A n c] 26)).alloc (by simp; omega) (.cells #[.int .i64 0, .int .i64 0, .slice none 0 0] 26)).alloc (by simp; omega) (.cells #[.int .i64 d, .int .i64 f, .slice A2 n2 c2] 26)
  go_enter Try.func206, Try.ntmps206
  go_wp2_with (first | (go_at_call 80; refine (i_CardOk _ _ _ _ _ ts _ ?_).mono ?_; exact hT3.more (by simp; omega); rintro e w1 ⟨rfl, hb1⟩; obtain ⟨hcb, hfb⟩ := bcell hb1; have hz_w1_0 : w.heap.size < w1.heap.size := (by have hzz := hb1.size; (try simp at hzz); omega); have hy_w1_0 := Nat.le_of_lt hz_w1_0; have hz_w1_1 : w.heap.size + 1 < w1.heap.size := (by have hzz := hb1.size; (try simp at hzz); omega); have hy_w1_1 := Nat.le_of_lt hz_w1_1; have hz_w1_2 : w.heap.size + 1 + 1 < w1.heap.size := (by have hzz := hb1.size; (try simp at hzz); omega); have hy_w1_2 := Nat.le_of_lt hz_w1_2) | (go_at_call 94; refine (i_copied _ _ B _ _ _ ss _ ?_ ?_).mono ?_; exact hS3.below (hb1.mono (by simp; omega)); exact Nat.le_trans (by simp; omega) hb1.size; rintro e w2 ⟨A1, c1, rfl, ho2, hb2⟩; obtain ⟨hcb2, hfb2⟩ := bcell hb2; have hz_w2_0 : w.heap.size < w2.heap.size := (by have hzz := hb2.size; (try simp at hzz); omega); have hy_w2_0 := Nat.le_of_lt hz_w2_0; have hz_w2_1 : w.heap.size + 1 < w2.heap.size := (by have hzz := hb2.size; (try simp at hzz); omega); have hy_w2_1 := Nat.le_of_lt hz_w2_1; have hz_w2_2 : w.heap.size + 1 + 1 < w2.heap.size := (by have hzz := hb2.size; (try simp at hzz); omega); have hy_w2_2 := Nat.le_of_lt hz_w2_2))
  refine bodyPost_ret (v := .tuple #[.agg #[.int .i64 d, .int .i64 f, .slice A1 ss.length c1], .bool false]) (by simp [results, Try.results206, go_sem, *]) rfl ?_
  exact ⟨A1, c1, rfl, own_up ho2 upr (by first | exact Nat.le_refl _ | (simp; done) | omega | (simp; omega) | exact (‹_ ∧ _ ∧ Below _ _ _›).2.2.size), bel⟩

def putAt (d f : Int) (ss : List ByteArray) (k : Int) (s : ByteArray) : List ByteArray × Bool :=
  if (cardOk d f ss && inB k 0 ((ss.length : Int) - 1)) && cardOk d f (ss.set k.toNat s) then (ss.set k.toNat s, true) else (ss, false)

theorem Strs.setCell {w : World} {B n : Nat} {A : Option Addr} {ss : List ByteArray} (h : Strs w B A n ss) {p : Addr} (hB : B ≤ p.block) (u : Value) : Strs (w.setCell p u) B A n ss := ⟨h.rd.setCell hB u, h.nb, h.sb⟩
theorem set_map (ss : List ByteArray) (k : Nat) (s : ByteArray) : (ss.map Value.string).set k (Value.string s) = (ss.set k s).map Value.string := by
  rw [List.map_set]
theorem strs_of_own {w : World} {base n c : Nat} {A : Option Addr} {ss : List ByteArray} (h : w.ownsRow base 9 1 (.slice A n c) n (ss.map Value.string)) (hn : n ≤ 16777216) (hs : ∀ s ∈ ss, s.size ≤ 16777216) : Strs w w.heap.size A n ss :=
  ⟨Reads.of_own h, hn, hs⟩
theorem inB_iff {x a b : Int} : inB x a b = true ↔ a ≤ x ∧ x ≤ b := by simp [inB]

set_option maxHeartbeats 400000 in
theorem i_WithStrip (d f : Int) (B : Nat) (A : Option Addr) (n c : Nat) (ss : List ByteArray) (k : Int) (s : ByteArray) (w : World) (hS : Strs w B A n ss) (hB : B ≤ w.heap.size) (hs : s.size ≤ 16777216) :
    Calls Try.prog 178 #[.agg #[.int .i64 d, .int .i64 f, .slice A n c], .int .i64 k, .string s] w (FreshCardB w.heap.size d f (putAt d f ss k s).1 (putAt d f ss k s).2 w) := by
  have hn := hS.nb
  have hl := hS.len
  have hS2 := (hS.alloc hB (.cells #[.int .i64 d, .int .i64 f, .slice A n c] 26)).alloc (by simp; omega) (.cells #[.int .i64 0, .int .i64 0, .slice none 0 0] 26)
  cases hh : (cardOk d f ss && inB k 0 ((n : Int) - 1))
  · have HP : putAt d f ss k s = (ss, false) := by unfold putAt; rw [hl, hh]; rfl
    rw [HP]
    go_enter Try.func178, Try.ntmps178
    go_wp2_with (first | (go_at_call 120; refine (i_hasStrip _ _ B _ _ _ ss _ _ hS2 (by simp; omega)).mono ?_; rintro e w1 ⟨rfl, hb1⟩; obtain ⟨hcb, hfb⟩ := bcell hb1; have hz_w1_0 : w.heap.size < w1.heap.size := (by have hzz := hb1.size; (try simp at hzz); omega); have hy_w1_0 := Nat.le_of_lt hz_w1_0; have hz_w1_1 : w.heap.size + 1 < w1.heap.size := (by have hzz := hb1.size; (try simp at hzz); omega); have hy_w1_1 := Nat.le_of_lt hz_w1_1) | (go_at_call 94; refine (i_copied _ _ B _ _ _ ss _ (hS2.below (hb1.mono (by simp; omega))) (by omega)).mono ?_; rintro e w2 ⟨A1, c1, rfl, ho2, hb2⟩; obtain ⟨hcb2, hfb2⟩ := bcell hb2; have hz_w2_0 : w.heap.size < w2.heap.size := (by have hzz := hb2.size; (try simp at hzz); omega); have hy_w2_0 := Nat.le_of_lt hz_w2_0; have hz_w2_1 : w.heap.size + 1 < w2.heap.size := (by have hzz := hb2.size; (try simp at hzz); omega); have hy_w2_1 := Nat.le_of_lt hz_w2_1))
    refine bodyPost_ret (v := .tuple #[.agg #[.int .i64 d, .int .i64 f, .slice A1 ss.length c1], .bool false]) (by simp [results, Try.results178, go_sem, *]) rfl ?_
    exact ⟨A1, c1, rfl, own_up ho2 upr (by first | exact Nat.le_refl _ | (simp; done) | omega | (simp; omega) | exact (‹_ ∧ _ ∧ Below _ _ _›).2.2.size), bel⟩
  · obtain ⟨hck, hk⟩ : cardOk d f ss = true ∧ inB k 0 ((n : Int) - 1) = true := by simpa using hh
    obtain ⟨hk0, hk1⟩ := inB_iff.1 hk
    obtain ⟨K, rfl⟩ := Int.eq_ofNat_of_zero_le hk0
    have hKn : K < n := by omega
    have hsb : ∀ x ∈ ss.set K s, x.size ≤ 16777216 := by
      intro x hx
      rcases List.mem_or_eq_of_mem_set hx with h | h
      · exact hS.sb x h
      · rw [h]; exact hs
    have HL := Lib.hid hl
    have HPY : Hid (cardOk d f (ss.set K s) = true → putAt d f ss K s = (ss.set K s, true)) := by
      intro h; unfold putAt; rw [hl, hh]; simp [h]
    have HPN : Hid (cardOk d f (ss.set K s) = false → putAt d f ss K s = (ss, false)) := by
      intro h; unfold putAt; rw [hl, hh]; simp [h]
    clear hl hck hk
    go_enter Try.func178, Try.ntmps178
    go_wp2_with (first | (go_at_call 120; refine (i_hasStrip _ _ B _ _ _ ss _ _ hS2 (by simp; omega)).mono ?_; rintro e w1 ⟨rfl, hb1⟩; obtain ⟨hcb, hfb⟩ := bcell hb1; have hz_w1_0 : w.heap.size < w1.heap.size := (by have hzz := hb1.size; (try simp at hzz); omega); have hy_w1_0 := Nat.le_of_lt hz_w1_0; have hz_w1_1 : w.heap.size + 1 < w1.heap.size := (by have hzz := hb1.size; (try simp at hzz); omega); have hy_w1_1 := Nat.le_of_lt hz_w1_1) | (go_at_call 150; refine (clone_str B _ _ _ ss _ (hS2.below (hb1.mono (by simp; omega))) (by omega)).mono ?_; rintro e w2 ⟨A1, c1, rfl, ho2, hb2⟩; obtain ⟨hcb2, hfb2⟩ := bcell hb2; have hz_w2_0 : w.heap.size < w2.heap.size := (by have hzz := hb2.size; (try simp at hzz); omega); have hy_w2_0 := Nat.le_of_lt hz_w2_0; have hz_w2_1 : w.heap.size + 1 < w2.heap.size := (by have hzz := hb2.size; (try simp at hzz); omega); have hy_w2_1 := Nat.le_of_lt hz_w2_1; have hKl : K < ss.length := (by have := HL.out; omega); obtain ⟨g, cap, hv, hbg, hglt⟩ := ho2.form (by omega); (have hA : A1 = some ⟨g, 0, none⟩ := (by injection hv)); subst hA; clear hv; obtain ⟨u1, hc1⟩ := own_cell ho2 (j := K) hKl; have hf1 := ho2.frozenAt K))
    have ho3 := (ho2.stored K (.string s)).1
    rw [set_map] at ho3
    have hsz3 : (w2.setCell ⟨g, K, none⟩ (.string s)).heap.size = w2.heap.size := by simp [World.setCell]
    have hT3 : Strs (w2.setCell ⟨g, K, none⟩ (.string s)) w2.heap.size (some ⟨g, 0, none⟩) ss.length (ss.set K s) := by
      have h := strs_of_own ho3 (by have := HL.out; omega) hsb
      rw [hsz3] at h; exact h
    have hS3 : Strs (w2.setCell ⟨g, K, none⟩ (.string s)) B A n ss := ((hS2.below (hb1.mono (by simp; omega))).below (hb2.mono (by omega))).setCell (by have := hb1.size; simp at this; show B ≤ g; omega) _
    have hlen : (ss.set K s).length = ss.length := List.length_set
    have HLEN := Lib.hid hlen
    clear hlen hsz3
    cases hcs : cardOk d f (ss.set K s)
    · have HP := Lib.hid (HPN.out hcs)
      refine (i_changed_no _ _ w2.heap.size _ _ _ _ _ _ ss (ss.set K s) _ (hS3.more (by omega)) hT3 (by simp [World.setCell]) hcs).mono ?_
      rintro e w3 ⟨A4, c4, rfl, ho4, hb4⟩
      obtain ⟨hcb4, hfb4⟩ := bcell hb4
      have hz_w3_0 : w.heap.size < w3.heap.size := (by have hzz := hb4.size; (try simp at hzz); omega); have hy_w3_0 := Nat.le_of_lt hz_w3_0; have hz_w3_1 : w.heap.size + 1 < w3.heap.size := (by have hzz := hb4.size; (try simp at hzz); omega); have hy_w3_1 := Nat.le_of_lt hz_w3_1
      clear hcs
      go_wp2
      refine bodyPost_ret (v := .tuple #[.agg #[.int .i64 d, .int .i64 f, .slice A4 ss.length c4], .bool false]) (by simp [results, Try.results178, go_sem, *]) rfl ?_
      rw [HP.out]
      exact ⟨A4, c4, rfl, own_up ho4 upr (by first | exact Nat.le_refl _ | (simp; done) | omega | (simp; omega) | exact (‹_ ∧ _ ∧ Below _ _ _›).2.2.size), bel⟩
    · have HP := Lib.hid (HPY.out hcs)
      refine (i_changed_yes _ _ w2.heap.size _ _ _ _ _ _ ss (ss.set K s) _ (hS3.more (by omega)) hT3 (by simp [World.setCell]) hcs).mono ?_
      rintro e w3 ⟨rfl, hb4⟩
      obtain ⟨hcb4, hfb4⟩ := bcell hb4
      have hz_w3_0 : w.heap.size < w3.heap.size := (by have hzz := hb4.size; (try simp at hzz); omega); have hy_w3_0 := Nat.le_of_lt hz_w3_0; have hz_w3_1 : w.heap.size + 1 < w3.heap.size := (by have hzz := hb4.size; (try simp at hzz); omega); have hy_w3_1 := Nat.le_of_lt hz_w3_1
      have ho4 := own_below ho3 hb4
      clear hcs
      go_wp2
      refine bodyPost_ret (v := .tuple #[.agg #[.int .i64 d, .int .i64 f, .slice (some ⟨g, 0, none⟩) ss.length c1], .bool true]) (by simp [results, Try.results178, go_sem, *]) rfl ?_
      rw [HP.out]
      unfold FreshCardB
      dsimp only
      rw [HLEN.out]
      exact ⟨_, c1, rfl, own_up ho4 upr (by first | exact Nat.le_refl _ | (simp; done) | omega | (simp; omega) | exact (‹_ ∧ _ ∧ Below _ _ _›).2.2.size), bel⟩
end Go.Proofs.Yteffbjddgdjkmaa
