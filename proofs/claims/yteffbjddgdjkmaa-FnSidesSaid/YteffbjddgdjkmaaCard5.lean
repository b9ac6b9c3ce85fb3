/- The contracts of MirrorCard of both packages. -/
import Derived.Test.YteffbjddgdjkmaaCard4
import Derived.Deep.RegionLaw
namespace Go.Proofs.Yteffbjddgdjkmaa
open Go.ChangeShapes Go.WideShapes Go.ChangeAt Go.RowKit
set_option linter.unusedVariables false
set_option maxRecDepth 10000

def mirrorRes (d f : Int) (ss : List ByteArray) : Int × Int × List ByteArray := if cardOk d f ss = true then (d, f, ss.reverse) else (0, 0, [])
set_option maxHeartbeats 800000 in
theorem i_MirrorCard (d f : Int) (B : Nat) (A : Option Addr) (n c : Nat) (ss : List ByteArray) (w : World) (hS : Strs w B A n ss) (hB : B ≤ w.heap.size) :
    Calls Try.prog 26 #[.agg #[.int .i64 d, .int .i64 f, .slice A n c]] w (FreshCard w.heap.size (mirrorRes d f ss).1 (mirrorRes d f ss).2.1 (mirrorRes d f ss).2.2 w) := by
  have hn := hS.nb
  have hl := hS.len
  have HL := Lib.hid hl
  have hS2 := (hS.alloc hB (.cells #[.int .i64 d, .int .i64 f, .slice A n c] 26)).alloc (by simp; omega) (.cells #[.int .i64 0, .int .i64 0, .slice none 0 0] 26)
  cases hh : cardOk d f ss
  · have HP : Hid (mirrorRes d f ss = (0, 0, [])) := by unfold Hid mirrorRes; rw [hh]; rfl
    go_enter Try.func26, Try.ntmps26
    go_wp2_with (first | (go_at_call 80; refine (i_CardOk _ _ _ _ _ ss _ (hS2.more (by simp; omega))).mono ?_; rintro e w1 ⟨rfl, hb1⟩; obtain ⟨hcb, hfb⟩ := bcell hb1; have hz_w1_0 : w.heap.size < w1.heap.size := (by have hzz := hb1.size; (try simp at hzz); omega); have hy_w1_0 := Nat.le_of_lt hz_w1_0; have hz_w1_1 : w.heap.size + 1 < w1.heap.size := (by have hzz := hb1.size; (try simp at hzz); omega); have hy_w1_1 := Nat.le_of_lt hz_w1_1))
    refine bodyPost_ret (v := .agg #[.int .i64 0, .int .i64 0, .slice none 0 0]) (by simp [results, Try.results26, go_sem, *]) rfl ?_
    rw [HP.out]
    exact ⟨none, 0, rfl, World.ownsRow_nil _ _ _ _, bel⟩
  · have HP : Hid (mirrorRes d f ss = (d, f, ss.reverse)) := by unfold Hid mirrorRes; rw [hh]; rfl
    have hpos : 0 < n := by
      have h := hh
      unfold cardOk at h
      simp only [Bool.and_eq_true] at h
      have h2 := inB_iff.1 h.2.1
      omega
    clear hl
    go_enter Try.func26, Try.ntmps26
    go_wp2_with (first | (go_at_call 80; refine (i_CardOk _ _ _ _ _ ss _ (hS2.more (by simp; omega))).mono ?_; rintro e w1 ⟨rfl, hb1⟩; obtain ⟨hcb, hfb⟩ := bcell hb1; have hz_w1_0 : w.heap.size < w1.heap.size := (by have hzz := hb1.size; (try simp at hzz); omega); have hy_w1_0 := Nat.le_of_lt hz_w1_0; have hz_w1_1 : w.heap.size + 1 < w1.heap.size := (by have hzz := hb1.size; (try simp at hzz); omega); have hy_w1_1 := Nat.le_of_lt hz_w1_1) | (go_at_call 94; refine (i_copied _ _ B _ _ _ ss _ (hS2.below (hb1.mono (by simp; omega))) (by omega)).mono ?_; rintro e w2 ⟨A1, c1, rfl, ho2, hb2⟩; obtain ⟨hcb2, hfb2⟩ := bcell hb2; have hz_w2_0 : w.heap.size < w2.heap.size := (by have hzz := hb2.size; (try simp at hzz); omega); have hy_w2_0 := Nat.le_of_lt hz_w2_0; have hz_w2_1 : w.heap.size + 1 < w2.heap.size := (by have hzz := hb2.size; (try simp at hzz); omega); have hy_w2_1 := Nat.le_of_lt hz_w2_1; have hKl : 0 < ss.length := (by have := HL.out; omega); obtain ⟨g, cap, hv, hbg, hglt⟩ := ho2.form (by omega); (have hA : A1 = some ⟨g, 0, none⟩ := (by injection hv)); subst hA; clear hv; have hge_g : w.heap.size + 2 ≤ g := (by have hzz := hbg; (try simp at hzz); omega); have hne_g_0 : g ≠ w.heap.size := (by have hzz := hbg; (try simp at hzz); omega); have hne2_g_0 := Ne.symm hne_g_0; have hne_g_1 : g ≠ w.heap.size + 1 := (by have hzz := hbg; (try simp at hzz); omega); have hne2_g_1 := Ne.symm hne_g_1) | (go_at_call 95; refine (rev_str w1.heap.size g _ _ ss _ (ho2.alloc _) (by have := HL.out; omega)).mono ?_; rintro e w3 ⟨rfl, ho3, hg3⟩; (have hb3 := grown_below (B := w1.heap.size) hg3 (by intro k hk; injection hk; omega) (by simp; omega)); obtain ⟨hcb3, hfb3⟩ := gcell hg3; have hz_w3_0 : w.heap.size < w3.heap.size := (by have hzz := hb3.size; (try simp at hzz); omega); have hy_w3_0 := Nat.le_of_lt hz_w3_0; have hz_w3_1 : w.heap.size + 1 < w3.heap.size := (by have hzz := hb3.size; (try simp at hzz); omega); have hy_w3_1 := Nat.le_of_lt hz_w3_1; have hgw : w2.heap.size ≠ g := (by omega)))
    refine bodyPost_ret (v := .agg #[.int .i64 d, .int .i64 f, .slice (some ⟨g, 0, none⟩) ss.length c1]) (by simp [results, Try.results26, go_sem, *]) rfl ?_
    rw [HP.out]
    unfold FreshCard
    dsimp only
    rw [List.length_reverse]
    exact ⟨_, c1, rfl, own_up ho3 upr (by first | exact Nat.le_refl _ | (simp; done) | omega | (simp; omega) | exact (‹_ ∧ _ ∧ Below _ _ _›).2.2.size), bel⟩

set_option maxHeartbeats 800000 in
theorem s_MirrorCard (d f : Int) (B : Nat) (A : Option Addr) (n c : Nat) (ss : List ByteArray) (w : World) (hS : Strs w B A n ss) (hB : B ≤ w.heap.size) :
    Calls Try.prog 39 #[.agg #[.int .i64 d, .int .i64 f, .slice A n c]] w (FreshCard w.heap.size (mirrorRes d f ss).1 (mirrorRes d f ss).2.1 (mirrorRes d f ss).2.2 w) := by
  have hn := hS.nb
  have hl := hS.len
  have HL := Lib.hid hl
  have hS2 := (hS.alloc hB (.cells #[.int .i64 d, .int .i64 f, .slice A n c] 26)).alloc (by simp; omega) (.cells #[.int .i64 0, .int .i64 0, .slice none 0 0] 26)
  cases hh : cardOk d f ss
  · have HP : Hid (mirrorRes d f ss = (0, 0, [])) := by unfold Hid mirrorRes; rw [hh]; rfl
    go_enter Try.func39, Try.ntmps39
    go_wp2_with (first | (go_at_call 90; refine (s_CardOk _ _ _ _ _ ss _ (hS2.more (by simp; omega))).mono ?_; rintro e w1 ⟨rfl, hb1⟩; obtain ⟨hcb, hfb⟩ := bcell hb1; have hz_w1_0 : w.heap.size < w1.heap.size := (by have hzz := hb1.size; (try simp at hzz); omega); have hy_w1_0 := Nat.le_of_lt hz_w1_0; have hz_w1_1 : w.heap.size + 1 < w1.heap.size := (by have hzz := hb1.size; (try simp at hzz); omega); have hy_w1_1 := Nat.le_of_lt hz_w1_1))
    refine bodyPost_ret (v := .agg #[.int .i64 0, .int .i64 0, .slice none 0 0]) (by simp [results, Try.results39, go_sem, *]) rfl ?_
    rw [HP.out]
    exact ⟨none, 0, rfl, World.ownsRow_nil _ _ _ _, bel⟩
  · have HP : Hid (mirrorRes d f ss = (d, f, ss.reverse)) := by unfold Hid mirrorRes; rw [hh]; rfl
    clear hl
    go_enter Try.func39, Try.ntmps39
    go_wp2_with (first | (go_at_call 90; refine (s_CardOk _ _ _ _ _ ss _ (hS2.more (by simp; omega))).mono ?_; rintro e w1 ⟨rfl, hb1⟩; obtain ⟨hcb, hfb⟩ := bcell hb1; have hz_w1_0 : w.heap.size < w1.heap.size := (by have hzz := hb1.size; (try simp at hzz); omega); have hy_w1_0 := Nat.le_of_lt hz_w1_0; have hz_w1_1 : w.heap.size + 1 < w1.heap.size := (by have hzz := hb1.size; (try simp at hzz); omega); have hy_w1_1 := Nat.le_of_lt hz_w1_1))
    obtain ⟨i0, hi0, hz0, hz1, hz2⟩ := info_parts info_str
    go_loopw [4] (fun k wr => ∃ (j : Nat) (A' : Option Addr) (c' : Nat), j ≤ n ∧ k = .int .i64 ((n : Int) - 1 - j) ∧ wr.heap[w1.heap.size]? = some (.cells #[.int .i64 d, .int .i64 f, .slice A' j c'] 26 (0, 0)) ∧
      wr.ownsRow (w1.heap.size + 1) 9 1 (.slice A' j c') j ((ss.reverse.take j).map Value.string) ∧ Below w1.heap.size w1 wr) (fun k _ => (intOf k + 1).toNat)
    case atStart => exact ⟨0, none, 0, Nat.zero_le _, by go_num, blk_new _ _, World.ownsRow_nil _ _ _ _, bel⟩
    case round =>
      obtain ⟨j, A', c', hj, rfl, hblk, hown, hb⟩ := hrel
      have hbs := hb.size
      have hX := blk_lt hblk
      by_cases hlt : j < n
      · obtain ⟨hk', ad, rfl, hab, hcw, hsb⟩ := hS.at_ (k := n - 1 - j) (by omega)
        have hcA : wr.cell? (ad.add (n - 1 - j)) = some (.string ss[n - 1 - j]) := by
          rw [Below.cell (B := B) (w := w) bel (by rw [block_of_add]; exact hab)]; exact hcw
        have hcb0 : wr.cell? ⟨w.heap.size, 2, none⟩ = some (.slice (some ad) n c) := by
          exact (blk_cells (blk_below (blk_below (box_first _ _ _) hb1 (by simp; omega)) hb (by omega)) 2).1
        obtain ⟨hx2, hf2⟩ := blk_cells hblk 2
        have hx2' : wr.cell? ⟨w1.heap.size, 2, none⟩ = some (.slice A' j c') := hx2
        clear hx2
        have hidx : ((n : Int) - 1 - (j : Int)).toNat = n - 1 - j := by omega
        have hi1 : (0 : Int) ≤ (n : Int) - 1 - (j : Int) := by omega
        have hi2 : (n : Int) - 1 - (j : Int) < (n : Int) := by omega
        have hi3 : (j : Int) ≤ (n : Int) - 1 := by omega
        clear hcb hfb
        have hone : ∀ u ∈ [Value.string ss[n - 1 - j]], u.oneCell' = true := by intro u hu; simp at hu; subst hu; rfl
        go_wp2
        go_region_law (first | (refine step_append_sl _ rfl (.tmp 23) (.tmp 29) _ rfl (w1.heap.size + 1) 9 i0 _ 1 16 Try.underlying24 hi0 hz0 hz1 hz2 rfl (by omega) (.slice A' j c') j _ rfl ((hown.alloc _).drew) (wr.heap.size + 1) (some ⟨wr.heap.size, 0, none⟩) 1 1 [Value.string ss[n - 1 - j]] rfl (reads_one _ _).drew hone ?_ ?_ ?_ ?_; (unfold maxLen; omega); omega; (simp; omega); intro A2 c2 w3 ho3 hb3; obtain ⟨hcb3, hfb3⟩ := bcellB hb3))
        all_goals
          go_wp2
          go_roundw
          case rel =>
            have hbl := blk_set (blk_below (blk_drew (blk_alloc hblk _)) hb3 (by omega)) 2 (.slice A2 (j + 1) c2)
            have hst : (ss.reverse.take j).map Value.string ++ [Value.string ss[n - 1 - j]] = (ss.reverse.take (j + 1)).map Value.string := by
              have hl := HL.out
              subst hl
              rw [rev_take ss j hlt, List.map_append]; rfl
            rw [hst] at ho3
            exact ⟨j + 1, A2, c2, by omega, by go_num, hbl, ownsRow_setCell_below ho3 (by simp) _, bel⟩
          case measure => simp [intOf]; omega
      · have hjn : j = n := by omega
        subst hjn
        obtain ⟨hx0, _⟩ := blk_cells hblk 0
        obtain ⟨hx1, _⟩ := blk_cells hblk 1
        obtain ⟨hx2, _⟩ := blk_cells hblk 2
        have hr0 := blk_cells (blk_below (blk_below (box_second w (.cells #[.int .i64 d, .int .i64 f, .slice A j c] 26) (.cells #[.int .i64 0, .int .i64 0, .slice none 0 0] 26)) hb1 (by simp)) hb (by omega))
        obtain ⟨ha0, hf0⟩ := hr0 0
        obtain ⟨ha1, hf1⟩ := hr0 1
        obtain ⟨ha2, hf2⟩ := hr0 2
        have ht : ss.reverse.take j = ss.reverse := List.take_of_length_le (by rw [List.length_reverse]; have := HL.out; omega)
        rw [ht] at hown
        have HO := hide hown
        clear hown ht hr0 hcb hfb
        go_wp2
        refine bodyPost_ret (v := .agg #[.int .i64 d, .int .i64 f, .slice A' j c']) (by simp [results, Try.results39, go_sem, *]) rfl ?_
        rw [HP.out]
        unfold FreshCard
        dsimp only
        have hl := HL.out
        subst hl
        rw [List.length_reverse]
        exact ⟨A', c', rfl, own_up (unhide HO) upr (by first | exact Nat.le_refl _ | (simp; done) | omega | (simp; omega) | exact (‹_ ∧ _ ∧ Below _ _ _›).2.2.size), bel⟩
end Go.Proofs.Yteffbjddgdjkmaa
