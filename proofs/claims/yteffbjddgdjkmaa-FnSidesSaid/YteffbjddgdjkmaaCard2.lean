/- The contracts of slices.Clone, copied, l05Copy, hasStrip, changed. -/
import Derived.Test.YteffbjddgdjkmaaLaw1
import Derived.Deep.RegionWith
namespace Go.Proofs.Yteffbjddgdjkmaa
open Go.ChangeShapes Go.WideShapes Go.ChangeAt Go.RowKit
set_option linter.unusedVariables false

theorem made_at {e : TypeId} {size : Nat} (W : World) (base k : Nat) (hk : W.heap.size = k) (hb : base ≤ k) : (W.alloc (.cells #[] e)).ownsRow base e size (.slice (some ⟨k, 0, none⟩) 0 0) 0 [] := by
  subst hk
  exact World.ownsRow_made W #[] 0 hb (by unfold maxLen; omega) (by simp)
theorem fresh_of {base n : Nat} {v : Value} {ss : List ByteArray} {w w' : World} (hl : ss.length = n) (ho : w'.ownsRow base 9 1 v n (ss.map Value.string)) (hb : Below w.heap.size w w') : FreshStrs base ss w (.returned v) w' := by
  subst hl
  rcases ho.2 with ⟨rfl, h0⟩ | ⟨g, cap, cur, rfl, _⟩
  · rw [h0] at ho
    refine ⟨none, 0, by rw [h0], ?_, hb⟩
    rw [h0]; exact ho
  · exact ⟨_, _, rfl, ho, hb⟩

set_option maxHeartbeats 400000 in
theorem clone_str (B : Nat) (A : Option Addr) (n c : Nat) (ss : List ByteArray) (w : World) (hS : Strs w B A n ss) (hB : B ≤ w.heap.size) :
    Calls Try.prog 150 #[.slice A n c] w (FreshStrs w.heap.size ss w) := by
  have hn := hS.nb
  have hl := hS.len
  have hR := hS.rd
  rcases A with _ | ad
  · have hn0 : n = 0 := by
      rcases Nat.eq_zero_or_pos n with h0 | h0
      · exact h0
      · obtain ⟨_, ad, h, _⟩ := hS.at_ h0; cases h
    subst hn0
    have hs0 : ss = [] := List.eq_nil_of_length_eq_zero hl
    subst hs0
    have hnil := fun W => Lib.run_eql_slice_nil (P := Try.prog) W 24
    clear hl
    go_enter Try.func150, Try.ntmps150
    go_wp2
    go_ret
    exact ⟨none, 0, rfl, World.ownsRow_nil w _ _ _, Below.refl _ _⟩
  · have hnil := fun W => Lib.run_eql_slice_nil (P := Try.prog) W 24
    obtain ⟨i0, hi0, hz0, hz1, hz2⟩ := info_parts info_str
    have hown : (w.alloc (.cells #[] 9)).ownsRow w.heap.size 9 1 (.slice (some ⟨w.heap.size, 0, none⟩) 0 0) 0 [] := World.ownsRow_made w #[] 0 (Nat.le_refl _) (by unfold maxLen; omega) rfl
    have hR1 := hR.alloc hB (.cells #[] 9)
    have hone : ∀ u ∈ ss.map Value.string, u.oneCell' = true := by
      intro u hu; obtain ⟨s, _, rfl⟩ := List.mem_map.1 hu; rfl
    have HL := Lib.hid hl
    clear hl
    go_enter Try.func150, Try.ntmps150
    go_wp2_with (at_builtin; refine wpList_append_any _ rfl (.tmp 5) (.tmp 6) _ rfl w.heap.size 9 i0 _ 1 16 Try.underlying24 hi0 hz0 hz1 hz2 rfl (by omega) (.slice (some ⟨w.heap.size, 0, none⟩) 0 0) 0 [] rfl hown B (some ad) n c (ss.map Value.string) rfl hR1 hone ?_ ?_ ?_ ?_; (unfold maxLen; omega); omega; (simp); intro v1 w1 hown1 hg1 hat1)
    have hfr := fresh_of (ss := ss) (n := n) HL.out (by simpa using hown1) (((Below.refl _ _).alloc (Nat.le_refl _) _).grown hg1 (by simp) (by intro k hk; simp [Value.ownBlock] at hk; omega))
    have HFR := hide hfr
    clear hfr hown1 hg1 hat1
    go_ret
    exact (unhide HFR)

set_option maxHeartbeats 400000 in
theorem i_copied (d f : Int) (B : Nat) (A : Option Addr) (n c : Nat) (ss : List ByteArray) (w : World) (hS : Strs w B A n ss) (hB : B ≤ w.heap.size) :
    Calls Try.prog 94 #[.agg #[.int .i64 d, .int .i64 f, .slice A n c]] w (FreshCard w.heap.size d f ss w) := by
  have hS2 := (hS.alloc hB (.cells #[.int .i64 d, .int .i64 f, .slice A n c] 26)).alloc (by simp; omega) (.cells #[.int .i64 0, .int .i64 0, .slice none 0 0] 26)
  have hB2 : B ≤ ((w.alloc (.cells #[.int .i64 d, .int .i64 f, .slice A n c] 26)).alloc (.cells #[.int .i64 0, .int .i64 0, .slice none 0 0] 26)).heap.size := by simp; omega
  go_enter Try.func94, Try.ntmps94
  go_wp2
  go_region_held3 (fun W => (∀ b o, b < w.heap.size + 1 → W.cell? ⟨b, o, none⟩ = ((w.alloc (.cells #[.int .i64 d, .int .i64 f, .slice A n c] 26)).alloc (.cells #[.int .i64 0, .int .i64 0, .slice none 0 0] 26)).cell? ⟨b, o, none⟩) ∧ (∀ b o, b < w.heap.size + 1 → W.frozen? ⟨b, o, none⟩ = ((w.alloc (.cells #[.int .i64 d, .int .i64 f, .slice A n c] 26)).alloc (.cells #[.int .i64 0, .int .i64 0, .slice none 0 0] 26)).frozen? ⟨b, o, none⟩) ∧ Below (w.heap.size + 1) ((w.alloc (.cells #[.int .i64 d, .int .i64 f, .slice A n c] 26)).alloc (.cells #[.int .i64 0, .int .i64 0, .slice none 0 0] 26)) W) (exact keep_of bel) (first | (go_at_call 150; have hq := (‹_ ∧ _ ∧ Below _ _ _›).2.2; refine (clone_str B _ _ _ ss _ ?_ ?_).mono ?_; exact hS2.below (hq.mono (by omega)); exact Nat.le_trans hB2 hq.size; rintro e w1 ⟨A1, c1, rfl, ho1, hb1⟩; obtain ⟨hcb, hfb⟩ := bcell hb1))
  go_wp2
  refine bodyPost_ret (v := .agg #[.int .i64 d, .int .i64 f, .slice A1 ss.length c1]) (by simp [results, Try.results94, go_sem, hcb]) rfl ?_
  exact ⟨A1, c1, rfl, own_up ho1 upr (by first | exact Nat.le_refl _ | (simp; done) | omega | (simp; omega) | exact (‹_ ∧ _ ∧ Below _ _ _›).2.2.size), bel⟩

set_option maxHeartbeats 400000 in
theorem s_l05Copy (d f : Int) (B : Nat) (A : Option Addr) (n c : Nat) (ss : List ByteArray) (w : World) (hS : Strs w B A n ss) (hB : B ≤ w.heap.size) :
    Calls Try.prog 87 #[.agg #[.int .i64 d, .int .i64 f, .slice A n c]] w (FreshCard w.heap.size d f ss w) := by
  have hn := hS.nb
  have hl := hS.len
  have hS2 := (hS.alloc hB (.cells #[.int .i64 d, .int .i64 f, .slice A n c] 26)).alloc (by simp; omega) (.cells #[.int .i64 0, .int .i64 0, .slice none 0 0] 26)
  have hB2 : B ≤ ((w.alloc (.cells #[.int .i64 d, .int .i64 f, .slice A n c] 26)).alloc (.cells #[.int .i64 0, .int .i64 0, .slice none 0 0] 26)).heap.size := by simp; omega
  obtain ⟨i0, hi0, hz0, hz1, hz2⟩ := info_parts info_str
  have hown : (((w.alloc (.cells #[.int .i64 d, .int .i64 f, .slice A n c] 26)).alloc (.cells #[.int .i64 0, .int .i64 0, .slice none 0 0] 26)).alloc (.cells #[] 9)).ownsRow (w.heap.size + 2) 9 1 (.slice (some ⟨w.heap.size + 1 + 1, 0, none⟩) 0 0) 0 [] := made_at _ _ _ (by simp) (by omega)
  have hone : ∀ u ∈ ss.map Value.string, u.oneCell' = true := by
    intro u hu; obtain ⟨s, _, rfl⟩ := List.mem_map.1 hu; rfl
  have HL := Lib.hid hl
  clear hl
  go_enter Try.func87, Try.ntmps87
  go_wp2
  go_region_held3 (fun W => (∀ b o, b < w.heap.size + 1 → W.cell? ⟨b, o, none⟩ = ((w.alloc (.cells #[.int .i64 d, .int .i64 f, .slice A n c] 26)).alloc (.cells #[.int .i64 0, .int .i64 0, .slice none 0 0] 26)).cell? ⟨b, o, none⟩) ∧ (∀ b o, b < w.heap.size + 1 → W.frozen? ⟨b, o, none⟩ = ((w.alloc (.cells #[.int .i64 d, .int .i64 f, .slice A n c] 26)).alloc (.cells #[.int .i64 0, .int .i64 0, .slice none 0 0] 26)).frozen? ⟨b, o, none⟩) ∧ Below (w.heap.size + 1) ((w.alloc (.cells #[.int .i64 d, .int .i64 f, .slice A n c] 26)).alloc (.cells #[.int .i64 0, .int .i64 0, .slice none 0 0] 26)) W) (exact keep_of bel) (first | (refine step_append_sl _ rfl (.tmp 7) (.tmp 9) _ rfl (w.heap.size + 2) 9 i0 _ 1 16 Try.underlying24 hi0 hz0 hz1 hz2 rfl (by omega) (.slice (some ⟨w.heap.size + 1 + 1, 0, none⟩) 0 0) 0 [] rfl hown.drew B A n c (ss.map Value.string) rfl ((hS2.rd.alloc hB2 _).drew) hone ?_ ?_ ?_ ?_; (unfold maxLen; omega); omega; (simp); intro A1 c1 w1 ho1 hb1; obtain ⟨hcb, hfb⟩ := bcellB hb1))
  go_wp2
  have hl := HL.out
  subst hl
  simp only [Nat.zero_add, List.nil_append] at ho1 ⊢
  refine bodyPost_ret (v := .agg #[.int .i64 d, .int .i64 f, .slice A1 ss.length c1]) (by simp [results, Try.results87, go_sem, hcb]) rfl ?_
  exact ⟨A1, c1, rfl, own_up ho1 upr (by first | exact Nat.le_refl _ | (simp; done) | omega | (simp; omega) | exact (‹_ ∧ _ ∧ Below _ _ _›).2.2.size), bel⟩
set_option maxHeartbeats 400000 in
theorem i_hasStrip (d f : Int) (B : Nat) (A : Option Addr) (n c : Nat) (ss : List ByteArray) (k : Int) (w : World) (hS : Strs w B A n ss) (hB : B ≤ w.heap.size) :
    Calls Try.prog 120 #[.agg #[.int .i64 d, .int .i64 f, .slice A n c], .int .i64 k] w fun e w' => e = .returned (.bool (cardOk d f ss && inB k 0 ((n : Int) - 1))) ∧ Below w.heap.size w w' := by
  have hn := hS.nb
  cases hc : cardOk d f ss <;>
  · go_enter Try.func120, Try.ntmps120
    go_wp2_with (first | (go_at_call 80; refine (i_CardOk _ _ _ _ _ ss _ ?_).mono ?_; exact (hS.alloc hB _).more (by simp; omega); rintro e w1 ⟨rfl, hb1⟩; obtain ⟨hcb, hfb⟩ := bcell hb1) | (go_at_call 81; refine (i_within _ _ _ _).mono ?_; rintro e w' ⟨rfl, rfl⟩))
    go_ret
    exact ⟨ret_bool (by simp), bel⟩
end Go.Proofs.Yteffbjddgdjkmaa
