/- Contracts of the program's and the reference's functions (Like1, Like2, Like3). -/
import Derived.BigQuiet
import Derived.Deep.AppendLies
import Derived.Deep.RegionLaw
import Derived.Deep.RegionWith
import Derived.Lib.QuietBelow
import Derived.Test.YtccjedongkokoaaRows
import Derived.Test.YtccjedongkokoaaQLaa
import Derived.Test.YtccjedongkokoaaQLb
import Derived.Test.YtccjedongkokoaaQLz
import Derived.Test.YtccjedongkokoaaQLu
import Derived.Test.YtccjedongkokoaaQLac
namespace Go.Proofs.Ytccjedongkokoaa
open Go.ChangeShapes Go.WideShapes Go.ChangeAt Go.RowKit
set_option linter.unusedVariables false
set_option linter.unusedSimpArgs false
set_option maxRecDepth 10000
set_option maxHeartbeats 1600000 in
theorem i_MiddleOf (r s t : ByteArray) (w : World) (hr : r.size ≤ 16777216) (hs : s.size ≤ 16777216) (ht : t.size ≤ 16777216) (h1 : sameFrame r.data.toList s.data.toList = true) (h2 : sameFrame s.data.toList t.data.toList = true) :
    Calls Try.prog 67 #[.string r, .string s, .string t] w fun e w' => e = .returned (.string (midB r s t)) ∧ w = w' := by
  have arm : ∀ (x y : ByteArray) (W : World), x.size ≤ 16777216 → y.size ≤ 16777216 → sameFrame x.data.toList y.data.toList = true → Calls Try.prog 108 #[.string x, .string y] W fun e w' => e = .returned (.bool true) ∧ W = w' := by
    intro x y W hx hy h
    have q := i_SameFrame x y W hx hy
    rw [h] at q
    exact q
  have ARM := hide arm
  have ARL := hide (fun (x y : ByteArray) (W : World) (hx : x.size ≤ 16777216) (hy : y.size ≤ 16777216) => i_LowerOf x y W hx hy)
  have ARU := hide (fun (x y : ByteArray) (W : World) (hx : x.size ≤ 16777216) (hy : y.size ≤ 16777216) => i_UpperOf x y W hx hy)
  have z1 : (lowB r s).size ≤ 16777216 := lowB_size _ _ hr
  have z2 : (mixB r s).size ≤ 16777216 := mixB_size _ _ hr
  have z3 : (lowB (mixB r s) t).size ≤ 16777216 := lowB_size _ _ z2
  clear arm
  go_enter Try.func67, Try.ntmps67
  go_wp2_with (first | (go_at_call 108; refine (ARM.out _ _ _ (by assumption) (by assumption) (by assumption)).mono ?_; rintro e w' ⟨rfl, rfl⟩) | (go_at_call 110; refine (ARL.out _ _ _ (by assumption) (by assumption)).mono ?_; rintro e w' ⟨rfl, rfl⟩) | (go_at_call 109; refine (ARU.out _ _ _ (by assumption) (by assumption)).mono ?_; rintro e w' ⟨rfl, rfl⟩))
  go_ret
  exact ⟨rfl, rfl⟩
theorem midS_take (a b c : List ByteArray) (k : Nat) (ha : k < a.length) (hb : k < b.length) (hc : k < c.length) (h1 : a.length = b.length) (h2 : b.length = c.length) : (midS a b c).take (k + 1) = (midS a b c).take k ++ [midB a[k] b[k] c[k]] := by
  have hm : k < (midS a b c).length := by rw [midS_len a b c h1 h2]; exact ha
  rw [List.take_succ_eq_append_getElem hm, midS_at a b c k ha hb hc hm]
set_option maxHeartbeats 6400000 in
theorem i_MiddleCard (d f : Int) (B : Nat) (A A2 A3 : Option Addr) (n c c2 c3 : Nat) (ss ts us : List ByteArray) (w : World) (hS : Strs w B A n ss) (hT : Strs w B A2 n ts) (hU : Strs w B A3 n us) (hB : B ≤ w.heap.size) (hc1 : cardOk d f ss = true) (hc2 : cardOk d f ts = true) (hc3 : cardOk d f us = true) :
    Calls Try.prog 24 #[.agg #[.int .i64 d, .int .i64 f, .slice A n c], .agg #[.int .i64 d, .int .i64 f, .slice A2 n c2], .agg #[.int .i64 d, .int .i64 f, .slice A3 n c3]] w fun e w' => ∃ A9 c9, e = .returned (.tuple #[.agg #[.int .i64 d, .int .i64 f, .slice A9 n c9], .bool true]) ∧ Strs w' w'.heap.size A9 n (midS ss ts us) ∧ Below w.heap.size w w' := by
  obtain ⟨i0, hi0, hi1, hi2, hi3⟩ := info_parts info_str
  have hn := hS.nb
  have hl := hS.len
  have hl2 := hT.len
  have hl3 := hU.len
  have hml : (midS ss ts us).length = n := by rw [midS_len _ _ _ (by omega) (by omega)]; exact hl
  have hmz : ∀ x ∈ midS ss ts us, x.size ≤ 16777216 := fun x hx => by
    have hcy := card_bounds (midS_ok hc1 hc2 hc3 (by omega) (by omega))
    have := hcy.2.2 x hx
    omega
  have hstep := fun (k : Nat) (ha : k < ss.length) (hb : k < ts.length) (hc : k < us.length) => midS_take ss ts us k ha hb hc (by omega) (by omega)
  have hfr1 := (fr_of hc1 hc2 (by omega)).2
  have hfr2 := (fr_of hc2 hc3 (by omega)).2
  have al1 : alike d f d f ss ts = true := by unfold alike; rw [hc1, hc2, hl, hl2]; simp
  have al2 : alike d f d f ss us = true := by unfold alike; rw [hc1, hc3, hl, hl3]; simp
  have HML := Lib.hid hml
  have HMZ := hide hmz
  have HSTEP := hide hstep
  have HF1 := hide hfr1
  have HF2 := hide hfr2
  have AL1 := Lib.hid al1
  have AL2 := Lib.hid al2
  clear hl hl2 hl3 hml hmz hstep hfr1 hfr2 al1 al2
  go_enter Try.func24, Try.ntmps24
  go_wp2_with fail
  have k0_a := blk_alloc (blk_alloc (blk_alloc (blk_new w (.cells #[.int .i64 d, .int .i64 f, .slice A n c] 26)) (.cells #[.int .i64 d, .int .i64 f, .slice A2 n c2] 26)) (.cells #[.int .i64 d, .int .i64 f, .slice A3 n c3] 26)) (.cells #[.int .i64 0, .int .i64 0, .slice none 0 0] 26)
  have k0_b := blk_alloc (blk_alloc (blk_new_at (w.alloc (.cells #[.int .i64 d, .int .i64 f, .slice A n c] 26)) (.cells #[.int .i64 d, .int .i64 f, .slice A2 n c2] 26) (k := w.heap.size + 1) (by simp)) (.cells #[.int .i64 d, .int .i64 f, .slice A3 n c3] 26)) (.cells #[.int .i64 0, .int .i64 0, .slice none 0 0] 26)
  have k0_c := blk_alloc (blk_new_at ((w.alloc (.cells #[.int .i64 d, .int .i64 f, .slice A n c] 26)).alloc (.cells #[.int .i64 d, .int .i64 f, .slice A2 n c2] 26)) (.cells #[.int .i64 d, .int .i64 f, .slice A3 n c3] 26) (k := w.heap.size + 2) (by simp)) (.cells #[.int .i64 0, .int .i64 0, .slice none 0 0] 26)
  have k0_r := blk_new_at (((w.alloc (.cells #[.int .i64 d, .int .i64 f, .slice A n c] 26)).alloc (.cells #[.int .i64 d, .int .i64 f, .slice A2 n c2] 26)).alloc (.cells #[.int .i64 d, .int .i64 f, .slice A3 n c3] 26)) (.cells #[.int .i64 0, .int .i64 0, .slice none 0 0] 26) (k := w.heap.size + 3) (by simp)
  have hb0 : Below w.heap.size w ((((w.alloc (.cells #[.int .i64 d, .int .i64 f, .slice A n c] 26)).alloc (.cells #[.int .i64 d, .int .i64 f, .slice A2 n c2] 26)).alloc (.cells #[.int .i64 d, .int .i64 f, .slice A3 n c3] 26)).alloc (.cells #[.int .i64 0, .int .i64 0, .slice none 0 0] 26)) := bel
  have hz3 : w.heap.size + 3 < (((((w.alloc (.cells #[.int .i64 d, .int .i64 f, .slice A n c] 26)).alloc (.cells #[.int .i64 d, .int .i64 f, .slice A2 n c2] 26)).alloc (.cells #[.int .i64 d, .int .i64 f, .slice A3 n c3] 26)).alloc (.cells #[.int .i64 0, .int .i64 0, .slice none 0 0] 26))).heap.size := by simp
  generalize ((((w.alloc (.cells #[.int .i64 d, .int .i64 f, .slice A n c] 26)).alloc (.cells #[.int .i64 d, .int .i64 f, .slice A2 n c2] 26)).alloc (.cells #[.int .i64 d, .int .i64 f, .slice A3 n c3] 26)).alloc (.cells #[.int .i64 0, .int .i64 0, .slice none 0 0] 26)) = w0 at *
  have hz0 := hb0.size
  refine (i_areAlike d f d f B A A2 n c n c2 ss ts w0 (hS.below (hb0.mono hB)) (hT.below (hb0.mono hB)) (Nat.le_trans hB hz0)).mono ?_
  rw [AL1.out]
  rintro e w1 ⟨rfl, hb1⟩
  have k1_a := blk_next k0_a hb1
  have k1_b := blk_next k0_b hb1
  have k1_c := blk_next k0_c hb1
  have k1_r := blk_next k0_r hb1
  have hbw1 : Below w.heap.size w w1 := hb0.trans (hb1.mono hz0)
  have hz3' : w.heap.size + 3 < w1.heap.size := Nat.lt_of_lt_of_le hz3 hb1.size
  clear k0_a k0_b k0_c k0_r hb0 hb1 hz0 hz3
  obtain ⟨hx0, hx1, hx2, hxl⟩ := blk3 k1_a
  obtain ⟨hy0, hy1, hy2, hyl⟩ := blk3 k1_c
  go_wp2_with fail
  clear hx0 hx1 hx2 hxl hy0 hy1 hy2 hyl
  refine (i_areAlike d f d f B A A3 n c n c3 ss us w1 (hS.below (hbw1.mono hB)) (hU.below (hbw1.mono hB)) (Nat.le_trans hB hbw1.size)).mono ?_
  rw [AL2.out]
  rintro e w2 ⟨rfl, hb2⟩
  have k2_a := blk_next k1_a hb2
  have k2_b := blk_next k1_b hb2
  have k2_c := blk_next k1_c hb2
  have k2_r := blk_next k1_r hb2
  have hbw2 : Below w.heap.size w w2 := hbw1.trans (hb2.mono hbw1.size)
  have hz3 : w.heap.size + 3 < w2.heap.size := Nat.lt_of_lt_of_le hz3' hb2.size
  clear k1_a k1_b k1_c k1_r hbw1 hb2 hz3'
  obtain ⟨hx0, hx1, hx2, hxl⟩ := blk3 k2_a
  go_wp2
  clear hx0 hx1 hx2 hxl
  have k_b := blk_alloc k2_b (.cells #[.int .i64 d, .int .i64 f, .slice none 0 0] 26)
  have k_c := blk_alloc k2_c (.cells #[.int .i64 d, .int .i64 f, .slice none 0 0] 26)
  have k_r := blk_alloc k2_r (.cells #[.int .i64 d, .int .i64 f, .slice none 0 0] 26)
  have k_o := blk_new w2 (.cells #[.int .i64 d, .int .i64 f, .slice none 0 0] 26)
  have hbw3 : Below w.heap.size w (w2.alloc (.cells #[.int .i64 d, .int .i64 f, .slice none 0 0] 26)) := hbw2.trans ((Below.refl _ _).alloc hbw2.size _)
  have hO0 : w2.heap.size < (w2.alloc (.cells #[.int .i64 d, .int .i64 f, .slice none 0 0] 26)).heap.size := by simp
  generalize w2.alloc (.cells #[.int .i64 d, .int .i64 f, .slice none 0 0] 26) = w3 at *
  obtain ⟨O, hO⟩ : ∃ O, w2.heap.size = O := ⟨_, rfl⟩
  obtain ⟨KB, hKB⟩ : ∃ x, w.heap.size + 1 = x := ⟨_, rfl⟩
  obtain ⟨KC, hKC⟩ : ∃ x, w.heap.size + 2 = x := ⟨_, rfl⟩
  obtain ⟨R, hR⟩ : ∃ x, w.heap.size + 3 = x := ⟨_, rfl⟩
  rw [hO] at k_o hO0 hz3 ⊢
  rw [hKB] at k_b
  rw [hKC] at k_c
  rw [hR] at k_r
  try rw [show w.heap.size + 1 + 1 + 1 = R by omega]
  try rw [show w.heap.size + 1 + 1 = KC by omega]
  try rw [hR]
  try rw [hKC]
  try rw [hKB]
  have n1 : ¬ KB = O := by omega
  have n2 : ¬ KC = O := by omega
  have n3 : ¬ R = O := by omega
  have m1 : KB < O := by omega
  have m2 : KC < O := by omega
  have m3 : R < O := by omega
  have hwO : w.heap.size < O := by omega
  have hwR : w.heap.size ≤ R := by omega
  clear hO hKB hKC hR hz3 hbw2 k2_a k2_b k2_c k2_r
  go_loopw [30] (fun i wr => ∃ (j : Nat) (A' : Option Addr) (c' : Nat), j ≤ n ∧ i = .int .i64 j ∧ wr.heap[O]? = some (.cells #[.int .i64 d, .int .i64 f, .slice A' j c'] 26 (0, 0)) ∧ wr.heap[KB]? = some (.cells #[.int .i64 d, .int .i64 f, .slice A2 n c2] 26 (0, 0)) ∧ wr.heap[KC]? = some (.cells #[.int .i64 d, .int .i64 f, .slice A3 n c3] 26 (0, 0)) ∧ wr.heap[R]? = some (.cells #[.int .i64 0, .int .i64 0, .slice none 0 0] 26 (0, 0)) ∧ wr.ownsRow (O + 1) 9 1 (.slice A' j c') j (((midS ss ts us).take j).map Value.string) ∧ Below w.heap.size w wr ∧ O < wr.heap.size) (fun i _ => n - (intOf i).toNat)
  case atStart => exact ⟨0, none, 0, Nat.zero_le _, rfl, k_o, k_b, k_c, k_r, World.ownsRow_nil _ _ _ _, hbw3, hO0⟩
  case round =>
    clear k_o k_b k_c k_r hbw3 hO0
    obtain ⟨j, A', c', hj, rfl, k_o, k_b, k_c, k_r, hown, hb, hOr⟩ := hrel
    have hzr := hb.size
    obtain ⟨hx0, hx1, hx2, hxl⟩ := blk3 k_o
    have hf2 := (blk_cells k_o 2).2
    by_cases hlt : j < n
    · obtain ⟨hk1, ad, rfl, hab, hcs1, hsb1⟩ := (hS.below (hb.mono hB)).at_ (k := j) hlt
      obtain ⟨hk2, ad2, rfl, hab2, hcs2, hsb2⟩ := (hT.below (hb.mono hB)).at_ (k := j) hlt
      obtain ⟨hk3, ad3, rfl, hab3, hcs3, hsb3⟩ := (hU.below (hb.mono hB)).at_ (k := j) hlt
      have HST : Hid (((midS ss ts us).take j).map Value.string ++ [Value.string (midB ss[j] ts[j] us[j])] = ((midS ss ts us).take (j + 1)).map Value.string) := by unfold Hid; rw [HSTEP.out j hk1 hk2 hk3, List.map_append]; rfl
      have HF := hide (fun (W : World) => i_MiddleOf ss[j] ts[j] us[j] W hsb1 hsb2 hsb3 (HF1.out _ (List.getElem_mem hk1) _ (List.getElem_mem hk2)) (HF2.out _ (List.getElem_mem hk2) _ (List.getElem_mem hk3)))
      generalize midB ss[j] ts[j] us[j] = T at *
      generalize ss[j] = s1 at *
      generalize ts[j] = s2 at *
      generalize us[j] = s3 at *
      have hq1 : (ad.add j).block < wr.heap.size := by rw [block_of_add]; omega
      have hq2 : (ad2.add j).block < wr.heap.size := by rw [block_of_add]; omega
      have hq3 : (ad3.add j).block < wr.heap.size := by rw [block_of_add]; omega
      have hone : ∀ u ∈ [Value.string T], u.oneCell' = true := by intro u hu; simp at hu; subst hu; rfl
      have hHone := hide hone
      clear hone
      obtain ⟨hy0, hy1, hy2, hyl⟩ := blk3 k_b
      obtain ⟨hv0, hv1, hv2, hvl⟩ := blk3 k_c
      go_wp2
      go_region_law (first | (go_simp; go_at_call 67; refine (HF.out _).mono ?_; rintro e w9 ⟨rfl, rfl⟩) | (refine step_append_sl _ rfl (.tmp 36) (.tmp 49) _ rfl (O + 1) 9 i0 _ 1 16 Try.underlying24 hi0 hi1 hi2 hi3 rfl (by omega) (.slice A' j c') j (((midS ss ts us).take j).map Value.string) rfl ?_ (wr.heap.size + 1) (some ⟨wr.heap.size, 0, none⟩) 1 1 [Value.string T] rfl ?_ hHone.out ?_ ?_ ?_ ?_; (focus ((repeat (first | (with_reducible exact hown) | (with_reducible refine World.ownsRow.drew ?_) | (with_reducible refine World.ownsRow.alloc ?_ _))); (first | done | fail))); (first | exact (reads_one _ _).drew | exact (reads_one _ _)); (unfold maxLen; omega); omega; (simp; omega); intro A5 c5 w5 ho5 hb5; have k5_o := blk_below (by first | exact blk_alloc k_o _ | exact blk_drew (blk_alloc k_o _)) hb5 (Nat.lt_succ_self O); have hcw5 := (blk_cells k5_o 2).1; have hfw5 := (blk_cells k5_o 2).2))
      all_goals
        go_wp2
        go_roundw
        case rel =>
          rw [HST.out] at ho5
          have k5_b := blk_below (by first | exact blk_alloc k_b _ | exact blk_drew (blk_alloc k_b _)) hb5 (show KB < O + 1 by omega)
          have k5_c := blk_below (by first | exact blk_alloc k_c _ | exact blk_drew (blk_alloc k_c _)) hb5 (show KC < O + 1 by omega)
          have k5_r := blk_below (by first | exact blk_alloc k_r _ | exact blk_drew (blk_alloc k_r _)) hb5 (show R < O + 1 by omega)
          have hbw5 : Below w.heap.size w w5 := (by first | exact (hb.alloc hzr _).trans (hb5.mono (by omega)) | exact (hb.alloc hzr _).drew.trans (hb5.mono (by omega)))
          exact ⟨j + 1, A5, c5, by omega, by go_num, by simpa using blk_set k5_o 2 (.slice A5 (j + 1) c5), blk_other k5_b n1 _, blk_other k5_c n2 _, blk_other k5_r n3 _, ownsRow_setCell_below ho5 (by simp) _, hbw5.setCell (show w.heap.size ≤ O by omega) _, by have := blk_lt k5_o; simp [World.setCell]; omega⟩
        case measure => simp [intOf]; omega
    · have hjn : j = n := by omega
      subst hjn
      have ht : (midS ss ts us).take j = midS ss ts us := List.take_of_length_le (by rw [HML.out]; exact Nat.le_refl _)
      rw [ht] at hown
      have HO3 := hide hown
      clear hlt hown ht
      obtain ⟨hy0, hy1, hy2, hyl⟩ := blk3 k_r
      have hg0 := (blk_cells k_r 0).2
      have hg1 := (blk_cells k_r 1).2
      have hg2 := (blk_cells k_r 2).2
      go_wp2
      refine bodyPost_ret (v := .tuple #[.agg #[.int .i64 d, .int .i64 f, .slice A' j c'], .bool true]) (by simp [results, Try.results24, go_sem, *]) rfl ?_
      refine ⟨A', c', rfl, strs_of_own (own3_set HO3.out k_r (by decide) _ _ _) hn HMZ.out, ?_⟩
      exact hb.trans (by repeat (first | (with_reducible exact Below.refl _ _) | (refine Below.setCell ?_ hwR _)))
end Go.Proofs.Ytccjedongkokoaa
namespace Go.Proofs.Ytccjedongkokoaa
open Go.ChangeShapes Go.WideShapes Go.ChangeAt Go.RowKit
set_option linter.unusedVariables false
set_option linter.unusedSimpArgs false
set_option maxRecDepth 10000
theorem w64L {x : Int} (h : -9223372036854775808 ≤ x ∧ x ≤ 9223372036854775807) : IntKind.i64.wrap x = x := by rw [IntKind.wrap_i64]; omega
theorem cost_ten {a b : List ByteArray} (h : a.length ≤ 10) : costL a b ≤ 2560 := by have := (costL_bd a b).2; omega
set_option maxHeartbeats 6400000 in
theorem i_ShiftDistance (d f : Int) (B : Nat) (A A2 : Option Addr) (n c c2 : Nat) (ss ts : List ByteArray) (w : World) (hS : Strs w B A n ss) (hT : Strs w B A2 n ts) (hB : B ≤ w.heap.size) (hc1 : cardOk d f ss = true) (hc2 : cardOk d f ts = true) :
    Calls Try.prog 26 #[.agg #[.int .i64 d, .int .i64 f, .slice A n c], .agg #[.int .i64 d, .int .i64 f, .slice A2 n c2]] w fun e w' => ∃ V : Int, e = .returned (.int .i64 V) ∧ 0 ≤ V ∧ V ≤ costL ss ts ∧ Below w.heap.size w w' := by
  have hl := hS.len
  have hl2 := hT.len
  have hcb := card_bounds hc1
  have hn1 : 1 ≤ n ∧ n ≤ 10 := by have := hcb.2.1; omega
  have al1 : alike d f d f ss ts = true := by unfold alike; rw [hc1, hc2, hl, hl2]; simp
  have hfr := (fr_of hc1 hc2 (by omega)).2
  have hC0 := cost_nn (a := ss) (b := ts) (by omega) hfr
  have hCT := cost_ten (a := ss) (b := ts) (by omega)
  have kD := fun (W : World) (hb : Below w.heap.size w W) => i_CardDistance d f d f B A A2 n c n c2 ss ts W (hS.below (hb.mono hB)) (hT.below (hb.mono hB)) (Nat.le_trans hB hb.size)
  rw [cost_yes al1] at kD
  have hfull : costL (ss.take n) (ts.take n) = costL ss ts := by rw [List.take_of_length_le (by omega), List.take_of_length_le (by omega)]
  obtain ⟨C, hC⟩ : ∃ C, costL ss ts = C := ⟨_, rfl⟩
  rw [hC] at hC0 hCT kD hfull ⊢
  have HD := hide kD
  have HFULL := Lib.hid hfull
  have HFR := hide hfr
  have hneg : ¬ C < 0 := by omega
  clear hl hl2 hcb hc1 hc2 al1 hfr kD hfull hC
  go_enter Try.func26, Try.ntmps26
  go_wp2_with fail
  have k_a := blk_alloc (blk_new w (.cells #[.int .i64 d, .int .i64 f, .slice A n c] 26)) (.cells #[.int .i64 d, .int .i64 f, .slice A2 n c2] 26)
  have k_b := blk_new_at (w.alloc (.cells #[.int .i64 d, .int .i64 f, .slice A n c] 26)) (.cells #[.int .i64 d, .int .i64 f, .slice A2 n c2] 26) (k := w.heap.size + 1) (by simp)
  have hb0 : Below w.heap.size w ((w.alloc (.cells #[.int .i64 d, .int .i64 f, .slice A n c] 26)).alloc (.cells #[.int .i64 d, .int .i64 f, .slice A2 n c2] 26)) := bel
  generalize ((w.alloc (.cells #[.int .i64 d, .int .i64 f, .slice A n c] 26)).alloc (.cells #[.int .i64 d, .int .i64 f, .slice A2 n c2] 26)) = w0 at *
  refine (HD.out w0 hb0).mono ?_
  rintro e w1 ⟨rfl, hb1⟩
  replace k_a := blk_next k_a hb1
  replace k_b := blk_next k_b hb1
  have hbw : Below w.heap.size w w1 := hb0.trans (hb1.mono hb0.size)
  obtain ⟨KB, hKB⟩ : ∃ x, w.heap.size + 1 = x := ⟨_, rfl⟩
  rw [hKB] at k_b
  try rw [hKB]
  clear hb0 hb1 hKB
  obtain ⟨hx0, hx1, hx2, hxl⟩ := blk3 k_b
  go_wp2
  clear hx0 hx1 hx2 hxl
  go_loopw [5, 17] (fun q i wr => ∃ (m : Nat) (V : Int), m ≤ n ∧ i = .int .i64 m ∧ q = .int .i64 V ∧ Hid ((m = 0 ∧ V = -1) ∨ (0 < m ∧ 0 ≤ V ∧ V ≤ C)) ∧ wr.heap[w.heap.size]? = some (.cells #[.int .i64 d, .int .i64 f, .slice A n c] 26 (0, 0)) ∧ wr.heap[KB]? = some (.cells #[.int .i64 d, .int .i64 f, .slice A2 n c2] 26 (0, 0)) ∧ Below w.heap.size w wr) (fun _ i _ => n - (intOf i).toNat)
  case atStart => exact ⟨0, -1, Nat.zero_le _, rfl, rfl, .inl ⟨rfl, rfl⟩, k_a, k_b, hbw⟩
  case round =>
    clear k_a k_b hbw
    obtain ⟨m, V, hm, rfl, rfl, HV, k_a, k_b, hbw⟩ := hrel
    by_cases hlt : m < n
    · obtain ⟨hx0, hx1, hx2, hxl⟩ := blk3 k_a
      go_wp2
      clear hx0 hx1 hx2 hxl
      go_loopw [7, 23] (fun q i wr => ∃ (k : Nat) (S : Int), k ≤ n ∧ i = .int .i64 k ∧ q = .int .i64 S ∧ Hid (0 ≤ S ∧ S ≤ 256 * k ∧ (m = 0 → S = costL (ss.take k) (ts.take k))) ∧ wr.heap[w.heap.size]? = some (.cells #[.int .i64 d, .int .i64 f, .slice A n c] 26 (0, 0)) ∧ wr.heap[KB]? = some (.cells #[.int .i64 d, .int .i64 f, .slice A2 n c2] 26 (0, 0)) ∧ Below w.heap.size w wr) (fun _ i _ => n - (intOf i).toNat)
      case atStart => exact ⟨0, 0, Nat.zero_le _, rfl, rfl, ⟨by omega, by omega, fun _ => by simp [costL]⟩, k_a, k_b, hbw⟩
      case round =>
        clear k_a k_b hbw
        obtain ⟨k, S, hk, rfl, rfl, HS, k_a, k_b, hbw⟩ := hrel
        by_cases hlt2 : k < n
        · obtain ⟨P, hP⟩ : ∃ P, (k + m) % n = P := ⟨_, rfl⟩
          have hPn : P < n := by rw [← hP]; exact Nat.mod_lt _ (by omega)
          have hidx : ((k : Int) + (m : Int)) % (n : Int) = (P : Int) := by
            have := Int.natCast_emod (k + m) n
            rw [hP] at this
            rw [this]
            push_cast
            rfl
          have hw1 : IntKind.i64.wrap ((k : Int) + (m : Int)) = (k : Int) + (m : Int) := w64L (by omega)
          have hn0 : ¬ (n : Int) = 0 := by omega
          have hP0 : (0 : Int) ≤ (P : Int) := by omega
          have hP1 : (P : Int) < (n : Int) := by omega
          obtain ⟨hk1, ad, rfl, hab, hcs1, hsb1⟩ := (hS.below (hbw.mono hB)).at_ (k := k) hlt2
          obtain ⟨hk2, ad2, rfl, hab2, hcs2, hsb2⟩ := (hT.below (hbw.mono hB)).at_ (k := P) hPn
          have hfra := HFR.out _ (List.getElem_mem hk1) _ (List.getElem_mem hk2)
          have har := area_nn hfra
          have hab3 := areaOf_bd ss[k].data.toList ts[P].data.toList
          have hnext : Hid (0 ≤ S + areaOf ss[k].data.toList ts[P].data.toList ∧ S + areaOf ss[k].data.toList ts[P].data.toList ≤ 256 * ((k + 1 : Nat) : Int) ∧ (m = 0 → S + areaOf ss[k].data.toList ts[P].data.toList = costL (ss.take (k + 1)) (ts.take (k + 1)))) := by
            obtain ⟨q1, q2, q3⟩ := HS.out
            refine ⟨by omega, by push_cast; omega, fun hm0 => ?_⟩
            have hPk : P = k := by subst hm0; rw [← hP, Nat.add_zero]; exact Nat.mod_eq_of_lt hlt2
            subst hPk
            rw [costL_take ss ts P hk1 hk2, q3 hm0]
          have kA := fun (W : World) => i_AreaBetween ss[k] ts[P] W hsb1 hsb2
          obtain ⟨ar, har9⟩ : ∃ x, areaOf ss[k].data.toList ts[P].data.toList = x := ⟨_, rfl⟩
          rw [har9] at har hab3 hnext kA
          obtain ⟨s1, hs1⟩ : ∃ x, ss[k] = x := ⟨_, rfl⟩
          obtain ⟨s2, hs2⟩ : ∃ x, ts[P] = x := ⟨_, rfl⟩
          rw [hs1] at hcs1 hsb1 kA
          rw [hs2] at hcs2 hsb2 kA
          have hSb := HS.out.2.1
          have hSa := HS.out.1
          have hw2 : IntKind.i64.wrap (S + ar) = S + ar := w64L (by omega)
          clear hs1 hs2 har9 hfra hP har hab3
          obtain ⟨hy0, hy1, hy2, hyl⟩ := blk3 k_b
          have r2 := cell_regrown hy2
          have r3 := cell_regrown hcs2
          go_wp2_with fail
          have zA := hide (fun d_ os => Calls.regrown_of (kA (Go.Sort.grow (redrawn wr d_) os)))
          clear kA
          refine wp_region_quiet_below (by kernel_rfl) (lexB_of (by kernel_rfl)) ?_
          try dsimp only [List.append]
          repeat (go_big_quiet_step (first | (go_at_call 69; exact zA.out _ _)))
          refine wpQuiet_nil ?_
          intro _ hw'
          obtain ⟨⟨dq, osq⟩, hw''⟩ := hw'
          subst hw''
          have hbg := below_regrown wr dq osq
          clear zA r2 r3 hy0 hy1 hy2 hyl hcs1 hcs2
          replace k_a := blk_next k_a hbg
          replace k_b := blk_next k_b hbg
          replace hbw := hbw.trans (hbg.mono hbw.size)
          clear hbg
          generalize Go.Sort.grow (redrawn wr dq) osq = wz at *
          go_wp2
          go_roundw
          case rel => exact ⟨k + 1, S + ar, by omega, by go_num, rfl, hnext.out, k_a, k_b, hbw⟩
          case measure => simp [intOf]; omega
        · have hkn : k = n := by omega
          subst hkn
          obtain ⟨hSa, hSb, hSm⟩ := HS.out
          rcases HV.out with ⟨rfl, rfl⟩ | ⟨hm0, hV0, hV1⟩
          · have hSC : S = C := by rw [hSm rfl, HFULL.out]
            have HN : Hid (((0 + 1 : Nat) = 0 ∧ S = -1) ∨ (0 < 0 + 1 ∧ 0 ≤ S ∧ S ≤ C)) := .inr ⟨by omega, by omega, by omega⟩
            clear hSC hSm
            go_wp2
            go_roundw
            case rel => exact ⟨0 + 1, S, by omega, by go_num, rfl, HN.out, k_a, k_b, hbw⟩
            case measure => simp [intOf]; omega
          · have hVn : ¬ V < 0 := by omega
            by_cases hSV : S < V
            · have HN : Hid ((m + 1 = 0 ∧ S = -1) ∨ (0 < m + 1 ∧ 0 ≤ S ∧ S ≤ C)) := .inr ⟨by omega, by omega, by omega⟩
              clear hSm
              go_wp2
              go_roundw
              case rel => exact ⟨m + 1, S, by omega, by go_num, rfl, HN.out, k_a, k_b, hbw⟩
              case measure => simp [intOf]; omega
            · have HN : Hid ((m + 1 = 0 ∧ V = -1) ∨ (0 < m + 1 ∧ 0 ≤ V ∧ V ≤ C)) := .inr ⟨by omega, by omega, by omega⟩
              clear hSm
              go_wp2
              go_roundw
              case rel => exact ⟨m + 1, V, by omega, by go_num, rfl, HN.out, k_a, k_b, hbw⟩
              case measure => simp [intOf]; omega
    · have hmn : m = n := by omega
      subst hmn
      have HQ : Hid (0 ≤ V ∧ V ≤ C) := by
        rcases HV.out with ⟨q, _⟩ | ⟨_, q, r⟩
        · omega
        · exact ⟨q, r⟩
      go_wp2
      go_ret
      exact ⟨V, rfl, HQ.out.1, HQ.out.2, hbw⟩
theorem cards3_at {w : World} {B : Nat} {A : Option Addr} {xs : List Value} (hR : Reads w B 3 A 3 xs) {k : Nat} (hk : k < 3) {u0 u1 u2 : Value} (h0 : xs[k * 3]? = some u0) (h1 : xs[k * 3 + 1]? = some u1) (h2 : xs[k * 3 + 2]? = some u2) :
    ∃ ad, A = some ad ∧ ad.block < B ∧ w.cell? (ad.add (k * 3)) = some u0 ∧ w.cell? ⟨(ad.add (k * 3)).block, (ad.add (k * 3)).off + 1, none⟩ = some u1 ∧ w.cell? ⟨(ad.add (k * 3)).block, (ad.add (k * 3)).off + 2, none⟩ = some u2 := by
  obtain ⟨ad, e, hb, hc⟩ := hR.2 (by omega)
  exact ⟨ad, e, hb, hc _ _ h0, by rw [← add_next _ _ _ (by omega)]; exact hc _ _ h1, by rw [← add_next _ _ _ (by omega)]; exact hc _ _ h2⟩
set_option maxHeartbeats 3200000 in
theorem i_NearestCard (d f : Int) (B : Nat) (L : Option Addr) (cl : Nat) (xs : List Value) (A : Option Addr) (n c : Nat) (ts : List ByteArray) (N1 : Int) (w : World) (hB : B ≤ w.heap.size) (hR : Reads w B 3 L 3 xs) (hT : Strs w B A n ts) (hN0 : 0 ≤ N1) (hN1 : N1 ≤ 2560)
    (hL : ∀ j, j < 3 → ∃ (A1 : Option Addr) (c1 : Nat) (us : List ByteArray), Strs w B A1 n us ∧ xs[j * 3]? = some (.int .i64 d) ∧ xs[j * 3 + 1]? = some (.int .i64 f) ∧ xs[j * 3 + 2]? = some (.slice A1 n c1) ∧ 0 ≤ costOf d f d f us ts ∧ costOf d f d f us ts ≤ 2560 ∧ (j = 0 → costOf d f d f us ts = N1) ∧ (j = 2 → costOf d f d f us ts = 0)) :
    Calls Try.prog 27 #[.slice L 3 cl, .agg #[.int .i64 d, .int .i64 f, .slice A n c]] w fun e w' => ∃ K : Int, e = .returned (.int .i64 K) ∧ 0 ≤ K ∧ K ≤ 2 ∧ (K = 0 ↔ N1 = 0) ∧ Below w.heap.size w w' := by
  have HL := hide hL
  clear hL
  go_enter Try.func27, Try.ntmps27
  go_wp2
  have k_b := blk_new w (.cells #[.int .i64 d, .int .i64 f, .slice A n c] 26)
  have hbw : Below w.heap.size w (w.alloc (.cells #[.int .i64 d, .int .i64 f, .slice A n c] 26)) := bel
  generalize w.alloc (.cells #[.int .i64 d, .int .i64 f, .slice A n c] 26) = w0 at *
  go_loopw [5, 6, 15] (fun p q i wr => ∃ (j : Nat) (P Q : Int), j ≤ 3 ∧ i = .int .i64 j ∧ p = .int .i64 P ∧ q = .int .i64 Q ∧ Hid ((j = 0 ∧ P = -1 ∧ Q = 0) ∨ (0 < j ∧ 0 ≤ P ∧ P < j ∧ 0 ≤ Q ∧ Q ≤ N1 ∧ (P = 0 → Q = N1) ∧ (P ≠ 0 → Q < N1) ∧ (j = 3 → Q = 0))) ∧ wr.heap[w.heap.size]? = some (.cells #[.int .i64 d, .int .i64 f, .slice A n c] 26 (0, 0)) ∧ Below w.heap.size w wr) (fun _ _ i _ => 3 - (intOf i).toNat)
  case atStart => exact ⟨0, -1, 0, Nat.zero_le _, rfl, rfl, rfl, .inl ⟨rfl, rfl, rfl⟩, k_b, hbw⟩
  case round =>
    clear k_b hbw
    obtain ⟨j, P, Q, hj, rfl, rfl, rfl, HI, k_b, hbw⟩ := hrel
    have hzr := hbw.size
    by_cases hlt : j < 3
    · obtain ⟨A1, c1, us, hU, e0, e1, e2, hm0, hm1, hm2, hm3⟩ := HL.out j hlt
      obtain ⟨ad, rfl, hab, hc0, hc1, hc2⟩ := cards3_at (hR.below (hbw.mono hB)) hlt e0 e1 e2
      have kD := fun (W : World) (hb : Below w.heap.size w W) => i_CardDistance d f d f B A1 A n c1 n c us ts W (hU.below (hb.mono hB)) (hT.below (hb.mono hB)) (Nat.le_trans hB hb.size)
      obtain ⟨M, hM⟩ : ∃ x, costOf d f d f us ts = x := ⟨_, rfl⟩
      rw [hM] at kD hm0 hm1 hm2 hm3
      have HD := hide kD
      have hMn : ¬ M < 0 := by omega
      have hMn2 : (0 : Int) ≤ M := hm0
      have hjI : (j : Int) < 3 := by omega
      clear kD hM e0 e1 e2
      have hq1 : (ad.add (j * 3)).block < wr.heap.size := by rw [block_of_add]; omega
      obtain ⟨hx0, hx1, hx2, hxl⟩ := blk3 k_b
      go_wp2_with fail
      clear hx0 hx1 hx2 hxl hc0 hc1 hc2
      replace k_b := blk_alloc k_b (.cells #[.int .i64 d, .int .i64 f, .slice A1 n c1] 26)
      replace hbw := hbw.trans ((Below.refl _ _).alloc hzr (.cells #[.int .i64 d, .int .i64 f, .slice A1 n c1] 26))
      generalize wr.alloc (.cells #[.int .i64 d, .int .i64 f, .slice A1 n c1] 26) = wa at *
      refine (HD.out wa hbw).mono ?_
      rintro e w9 ⟨rfl, hb9⟩
      replace k_b := blk_next k_b hb9
      replace hbw := hbw.trans (hb9.mono hbw.size)
      clear hb9
      rcases HI.out with ⟨rfl, rfl, rfl⟩ | ⟨h0, h1, h2, h3, h4, h5, h6, _⟩
      · have hMN := hm2 rfl
        have HN : Hid (((0 + 1 : Nat) = 0 ∧ ((0 : Nat) : Int) = -1 ∧ M = 0) ∨ (0 < 0 + 1 ∧ (0 : Int) ≤ ((0 : Nat) : Int) ∧ ((0 : Nat) : Int) < ((0 + 1 : Nat) : Int) ∧ 0 ≤ M ∧ M ≤ N1 ∧ (((0 : Nat) : Int) = 0 → M = N1) ∧ (((0 : Nat) : Int) ≠ 0 → M < N1) ∧ ((0 + 1 : Nat) = 3 → M = 0))) := .inr ⟨by omega, by omega, by omega, by omega, by omega, fun _ => hMN, fun q => absurd rfl q, fun q => by omega⟩
        clear hm2 hm3 hMN
        go_wp2
        go_roundw
        case rel => exact ⟨0 + 1, _, M, by omega, by go_num, rfl, rfl, HN.out, k_b, hbw⟩
        case measure => simp [intOf]; try omega
      · have hPn : ¬ P < 0 := by omega
        by_cases hMQ : M < Q
        · have HN : Hid (((j + 1 : Nat) = 0 ∧ (j : Int) = -1 ∧ M = 0) ∨ (0 < j + 1 ∧ (0 : Int) ≤ (j : Int) ∧ (j : Int) < ((j + 1 : Nat) : Int) ∧ 0 ≤ M ∧ M ≤ N1 ∧ ((j : Int) = 0 → M = N1) ∧ ((j : Int) ≠ 0 → M < N1) ∧ (j + 1 = 3 → M = 0))) := .inr ⟨by omega, by omega, by omega, by omega, by omega, fun q => by omega, fun q => by omega, fun q => hm3 (by omega)⟩
          clear hm2 hm3 h5 h6
          go_wp2
          go_roundw
          case rel => exact ⟨j + 1, _, M, by omega, by go_num, rfl, rfl, HN.out, k_b, hbw⟩
          case measure => simp [intOf]; omega
        · have HN : Hid (((j + 1 : Nat) = 0 ∧ P = -1 ∧ Q = 0) ∨ (0 < j + 1 ∧ (0 : Int) ≤ P ∧ P < ((j + 1 : Nat) : Int) ∧ 0 ≤ Q ∧ Q ≤ N1 ∧ (P = 0 → Q = N1) ∧ (P ≠ 0 → Q < N1) ∧ (j + 1 = 3 → Q = 0))) := .inr ⟨by omega, by omega, by omega, by omega, by omega, h5, h6, fun q => by have := hm3 (by omega); omega⟩
          clear hm2 hm3 h5 h6
          go_wp2
          go_roundw
          case rel => exact ⟨j + 1, P, Q, by omega, by go_num, rfl, rfl, HN.out, k_b, hbw⟩
          case measure => simp [intOf]; omega
    · have hj3 : j = 3 := by omega
      subst hj3
      have HQ : Hid (0 ≤ P ∧ P ≤ 2 ∧ (P = 0 ↔ N1 = 0)) := by
        rcases HI.out with ⟨q, _⟩ | ⟨h0, h1, h2, h3, h4, h5, h6, h7⟩
        · omega
        · have := h7 rfl
          exact ⟨by omega, by omega, fun q => by have := h5 q; omega, fun q => by
            refine Classical.byContradiction fun hp => ?_
            have := h6 hp
            omega⟩
      go_wp2
      go_ret
      exact ⟨P, rfl, HQ.out.1, HQ.out.2.1, HQ.out.2.2, hbw⟩
end Go.Proofs.Ytccjedongkokoaa
namespace Go.Proofs.Ytccjedongkokoaa
open Go.ChangeShapes Go.WideShapes Go.ChangeAt Go.RowKit
set_option linter.unusedVariables false
set_option linter.unusedSimpArgs false
set_option maxRecDepth 10000
theorem cur_boxy {w w' : World} {g B : Nat} {A : Option Addr} {c : Nat} {bs : List Int} (h : Cur w g B A c bs) (hg : w.grownBy w' (some g)) : Boxy w w' := by
  obtain ⟨i, q, h0, h1, hk⟩ := h.blk
  exact ⟨hg.size, fun k hk2 hn => hg.block k hk2 (fun e => by injection e with e; subst e; exact hn (boxAt_of hk))⟩
theorem rows_apart {w w' : World} {lo hi gy : Nat} {A : Option Addr} {c : Nat} {ss : List ByteArray} (ho : OwnS w lo hi A c ss) (hg : w.grownBy w' (some gy)) (h : hi ≤ gy) : OwnS w' lo hi A c ss :=
  ⟨own_grown ho.row hg fun k hk hr => by
    have h1 := ho.top k hk
    injection hr with hr
    omega, ho.top⟩
set_option maxHeartbeats 6400000 in
theorem s_DrawCards (B : Nat) (A : Option Addr) (c : Nat) (bs : List Int) (w : World) (hK : Code w B A bs) (hB : B ≤ w.heap.size) :
    Calls Try.prog 20 #[.slice A bs.length c] w fun e w' => ∃ (d f n : Nat) (ss ts : List ByteArray) (A1 A2 : Option Addr) (c1 c2 : Nat), (1 ≤ d ∧ d ≤ 4 ∧ 1 ≤ f ∧ f ≤ 4 ∧ 1 ≤ n ∧ n ≤ 6) ∧ ss.length = n ∧ ts.length = n ∧ (∀ x ∈ ss, Drew d f x) ∧ (∀ x ∈ ts, Drew d f x) ∧ e = .returned (.tuple #[.agg #[.int .i64 d, .int .i64 f, .slice A1 n c1], .agg #[.int .i64 d, .int .i64 f, .slice A2 n c2]]) ∧ Strs w' w'.heap.size A1 n ss ∧ Strs w' w'.heap.size A2 n ts ∧ Below w.heap.size w w' := by
  go_enter Try.func20, Try.ntmps20
  go_wp2_with fail
  have k_r := blk_alloc (blk_new w (.cells #[.int .i64 0, .int .i64 0, .slice none 0 0] 26)) (.cells #[.int .i64 0, .int .i64 0, .slice none 0 0] 26)
  have k_t := blk_new_at (w.alloc (.cells #[.int .i64 0, .int .i64 0, .slice none 0 0] 26)) (.cells #[.int .i64 0, .int .i64 0, .slice none 0 0] 26) (k := w.heap.size + 1) (by simp)
  have G_ : Below w.heap.size w ((w.alloc (.cells #[.int .i64 0, .int .i64 0, .slice none 0 0] 26)).alloc (.cells #[.int .i64 0, .int .i64 0, .slice none 0 0] 26)) := bel
  have hs0 : ((w.alloc (.cells #[.int .i64 0, .int .i64 0, .slice none 0 0] 26)).alloc (.cells #[.int .i64 0, .int .i64 0, .slice none 0 0] 26)).heap.size = w.heap.size + 2 := by simp
  generalize (w.alloc (.cells #[.int .i64 0, .int .i64 0, .slice none 0 0] 26)).alloc (.cells #[.int .i64 0, .int .i64 0, .slice none 0 0] 26) = w0 at *
  refine (s_l01New B A c bs w0 (hK.below (G_.mono hB)) (by omega)).mono ?_
  rintro e w1 ⟨rfl, C_, hb1⟩
  replace k_r := blk_next k_r hb1
  replace k_t := blk_next k_t hb1
  replace G_ := G_.trans (hb1.mono G_.size)
  have hs1 := hb1.size
  obtain ⟨g, hg⟩ : ∃ x, x = w0.heap.size := ⟨_, rfl⟩
  rw [← hg] at C_ ⊢
  obtain ⟨br, hbr⟩ : ∃ x, x = w.heap.size := ⟨_, rfl⟩
  obtain ⟨bt, hbt⟩ : ∃ x, x = w.heap.size + 1 := ⟨_, rfl⟩
  rw [← hbt] at k_t
  rw [← hbr] at k_r
  try rw [← hbt]
  try rw [← hbr]
  have hrg : br < g := by omega
  have htg : bt < g := by omega
  have hrt : br ≠ bt := by omega
  have hwr : w.heap.size ≤ br := by omega
  have hwt : w.heap.size ≤ bt := by omega
  have hgl := C_.lo
  have hgt := C_.lt
  clear hb1 hg hbr hbt hs0
  go_wp2_with fail
  refine (s_l05Card g B A c bs w1 C_).mono ?_
  rintro e w2 ⟨d, f, ss, A1, c1, hbd, hss, rfl, oX, C2, g2⟩
  replace k_r := C_.blk_keep k_r (show br ≠ g by omega) g2
  replace k_t := C_.blk_keep k_t (show bt ≠ g by omega) g2
  replace G_ := G_.trans (grown_below g2 (fun k hk => by injection hk with hk; omega) G_.size)
  have hs2 := g2.size
  clear C_ g2
  have hsz : ∀ x ∈ ss, x.size ≤ 16777216 := fun x hx => by have := (hss x hx).2.2; omega
  obtain ⟨n, hn⟩ : ∃ n, ss.length = n := ⟨_, rfl⟩
  have HN := Lib.hid hn
  have oXr := oX.row
  have HSZ := hide hsz
  have HSS := hide hss
  have hn6 := hbd.2.2.2.2
  rw [hn] at hbd hn6 ⊢
  clear hsz hss hn oXr
  go_wp2_with fail
  have k_x := blk_new w2 (.cells #[.int .i64 (d : Int), .int .i64 (f : Int), .slice A1 n c1] 26)
  have hxl : w2.heap.size < (w2.alloc (.cells #[.int .i64 (d : Int), .int .i64 (f : Int), .slice A1 n c1] 26)).heap.size := by simp
  replace k_r := blk_alloc k_r (.cells #[.int .i64 (d : Int), .int .i64 (f : Int), .slice A1 n c1] 26)
  replace k_t := blk_alloc k_t (.cells #[.int .i64 (d : Int), .int .i64 (f : Int), .slice A1 n c1] 26)
  replace C2 := C2.alloc (.cells #[.int .i64 (d : Int), .int .i64 (f : Int), .slice A1 n c1] 26)
  replace oX := oX.alloc (.cells #[.int .i64 (d : Int), .int .i64 (f : Int), .slice A1 n c1] 26)
  replace G_ := G_.trans ((Below.refl _ _).alloc G_.size (.cells #[.int .i64 (d : Int), .int .i64 (f : Int), .slice A1 n c1] 26))
  generalize w2.alloc (.cells #[.int .i64 (d : Int), .int .i64 (f : Int), .slice A1 n c1] 26) = w3 at *
  obtain ⟨bx, hbx⟩ : ∃ x, x = w2.heap.size := ⟨_, rfl⟩
  rw [← hbx] at k_x ⊢
  have hgx : g < bx := by omega
  have hxs : w2.heap.size ≤ bx := by omega
  have hx3 : bx < w3.heap.size := by omega
  replace oX := oX.wide (lo' := w1.heap.size) (hi' := w3.heap.size) (Nat.le_refl _) (by omega)
  clear hbx
  have hSX := oX.rd (by rw [HN.out]; omega) HSZ.out
  rw [HN.out] at hSX
  refine (s_l05Copy d f w3.heap.size A1 n c1 ss w3 hSX (Nat.le_refl _)).mono ?_
  rintro e w4 ⟨A2, c2, rfl, oY, hb4⟩
  rw [HN.out] at oY ⊢
  obtain ⟨gy, cap, hv, hbg, hglt⟩ := oY.form (show 0 < n by omega)
  have hA : A2 = some ⟨gy, 0, none⟩ := by injection hv
  subst hA
  clear hv hSX
  replace k_r := blk_next k_r hb4
  replace k_t := blk_next k_t hb4
  replace k_x := blk_next k_x hb4
  replace C2 := C2.below hb4
  replace oX := oX.below hb4
  replace G_ := G_.trans (hb4.mono G_.size)
  have hs4 := hb4.size
  clear hb4
  go_wp2
  have k_y := blk_new w4 (.cells #[.int .i64 (d : Int), .int .i64 (f : Int), .slice (some ⟨gy, 0, none⟩) n c2] 26)
  have hyl : w4.heap.size < (w4.alloc (.cells #[.int .i64 (d : Int), .int .i64 (f : Int), .slice (some ⟨gy, 0, none⟩) n c2] 26)).heap.size := by simp
  replace k_r := blk_alloc k_r (.cells #[.int .i64 (d : Int), .int .i64 (f : Int), .slice (some ⟨gy, 0, none⟩) n c2] 26)
  replace k_t := blk_alloc k_t (.cells #[.int .i64 (d : Int), .int .i64 (f : Int), .slice (some ⟨gy, 0, none⟩) n c2] 26)
  replace k_x := blk_alloc k_x (.cells #[.int .i64 (d : Int), .int .i64 (f : Int), .slice (some ⟨gy, 0, none⟩) n c2] 26)
  replace C2 := C2.alloc (.cells #[.int .i64 (d : Int), .int .i64 (f : Int), .slice (some ⟨gy, 0, none⟩) n c2] 26)
  replace oX := oX.alloc (.cells #[.int .i64 (d : Int), .int .i64 (f : Int), .slice (some ⟨gy, 0, none⟩) n c2] 26)
  replace oY := oY.alloc (.cells #[.int .i64 (d : Int), .int .i64 (f : Int), .slice (some ⟨gy, 0, none⟩) n c2] 26)
  replace G_ := G_.trans ((Below.refl _ _).alloc G_.size (.cells #[.int .i64 (d : Int), .int .i64 (f : Int), .slice (some ⟨gy, 0, none⟩) n c2] 26))
  generalize w4.alloc (.cells #[.int .i64 (d : Int), .int .i64 (f : Int), .slice (some ⟨gy, 0, none⟩) n c2] 26) = w5 at *
  obtain ⟨by_, hby⟩ : ∃ x, x = w4.heap.size := ⟨_, rfl⟩
  rw [← hby] at k_y ⊢
  have hgy : g < by_ := by omega
  have hgyy : gy < by_ := by omega
  have hxy : bx < by_ := by omega
  obtain ⟨H, hH⟩ : ∃ x, x = w3.heap.size := ⟨_, rfl⟩
  obtain ⟨Lo, hLo⟩ : ∃ x, x = w1.heap.size := ⟨_, rfl⟩
  rw [← hH] at oX oY hbg
  rw [← hLo] at oX
  have hwL : w.heap.size ≤ Lo := by have := G_.size; omega
  have hgH : g < gy := by omega
  have hgn : ¬ by_ = gy := by omega
  have n1 : br ≠ gy := by omega
  have n2 : bt ≠ gy := by omega
  have n3 : bx ≠ gy := by omega
  have hBy : B ≤ gy := by omega
  have hwgy : w.heap.size ≤ gy := by omega
  clear hby hH hLo hs1 hs2 hs4 hglt hyl hxl
  go_loopw [7] (fun i wr => ∃ (j : Nat) (ts : List ByteArray), j ≤ n ∧ i = .int .i64 (j : Int) ∧ Hid (ts.length = n) ∧ Hid (∀ x ∈ ts, Drew d f x) ∧ wr.heap[by_]? = some (.cells #[.int .i64 (d : Int), .int .i64 (f : Int), .slice (some ⟨gy, 0, none⟩) n c2] 26 (0, 0)) ∧ wr.heap[bx]? = some (.cells #[.int .i64 (d : Int), .int .i64 (f : Int), .slice A1 n c1] 26 (0, 0)) ∧ wr.heap[br]? = some (.cells #[.int .i64 0, .int .i64 0, .slice none 0 0] 26 (0, 0)) ∧ wr.heap[bt]? = some (.cells #[.int .i64 0, .int .i64 0, .slice none 0 0] 26 (0, 0)) ∧ OwnS wr Lo H A1 c1 ss ∧ wr.ownsRow H 9 1 (.slice (some ⟨gy, 0, none⟩) n c2) n (ts.map Value.string) ∧ Cur wr g B A c bs ∧ Below w.heap.size w wr) (fun i _ => n - (intOf i).toNat)
  case atStart => exact ⟨0, ss, Nat.zero_le _, rfl, HN.out, HSS.out, k_y, k_x, k_r, k_t, oX, oY, C2, G_⟩
  case round =>
    clear k_y k_x k_r k_t oX oY C2 G_
    obtain ⟨j, ts, hj, rfl, HT, HTS, k_y, k_x, k_r, k_t, oX, oY, C_, G_⟩ := hrel
    have s_wr := G_.size
    by_cases hlt : j < n
    · obtain ⟨x0, x1, x2, xl⟩ := blk3 k_y
      go_wp2_with fail
      clear x0 x1 x2 xl
      refine (s_l01Once 2 g B A c bs wr C_ (by omega) (by omega)).mono ?_
      rintro e w6 ⟨b, rfl, C6, g6⟩
      replace k_y := C_.blk_keep k_y (show by_ ≠ g by omega) g6
      replace k_x := C_.blk_keep k_x (show bx ≠ g by omega) g6
      replace k_r := C_.blk_keep k_r (show br ≠ g by omega) g6
      replace k_t := C_.blk_keep k_t (show bt ≠ g by omega) g6
      replace oX := oX.boxy (cur_boxy C_ g6)
      replace oY := own_boxy oY (by decide) (cur_boxy C_ g6)
      replace G_ := G_.trans (grown_below g6 (fun k hk => by injection hk with hk; omega) s_wr)
      have s_w6 := G_.size
      clear C_ g6 s_wr
      cases b
      · go_wp2
        go_roundw
        case rel => exact ⟨j + 1, ts, by omega, by go_num, HT.out, HTS.out, k_y, k_x, k_r, k_t, oX, oY, C6, G_⟩
        case measure => simp [intOf]; omega
      · obtain ⟨x0, x1, x2, xl⟩ := blk3 k_y
        go_wp2
        have C0 : Cur w6.drew g B A c bs := C6.drew
        have ky0 : w6.drew.heap[by_]? = some (.cells #[.int .i64 (d : Int), .int .i64 (f : Int), .slice (some ⟨gy, 0, none⟩) n c2] 26 (0, 0)) := k_y
        have kx0 : w6.drew.heap[bx]? = some (.cells #[.int .i64 (d : Int), .int .i64 (f : Int), .slice A1 n c1] 26 (0, 0)) := k_x
        have kr0 : w6.drew.heap[br]? = some (.cells #[.int .i64 0, .int .i64 0, .slice none 0 0] 26 (0, 0)) := k_r
        have kt0 : w6.drew.heap[bt]? = some (.cells #[.int .i64 0, .int .i64 0, .slice none 0 0] 26 (0, 0)) := k_t
        have oX0 : OwnS w6.drew Lo H A1 c1 ss := oX.drew
        have oY0 : w6.drew.ownsRow H 9 1 (.slice (some ⟨gy, 0, none⟩) n c2) n (ts.map Value.string) := oY
        have B0 : Below w.heap.size w w6.drew := G_.drew
        have hsd : w6.drew.heap.size = w6.heap.size := rfl
        have hjn : (j : Int) < (n : Int) := by omega
        clear oX oY G_ C6
        go_region_with (first
          | (go_at_call 63; refine (s_l02Draw d f g B A c bs _ C0 (by omega) (by omega)).mono ?_; rintro e w7 ⟨s0, rfl, HS0, C7, g7⟩; (have ky7 := C0.blk_keep ky0 (show by_ ≠ g by omega) g7); (have oY7 := own_boxy oY0 (by decide) (cur_boxy C0 g7)); obtain ⟨y0, y1, y2, yl⟩ := blk3 ky7; obtain ⟨u1, hc1⟩ := own_cell oY7 (j := j) hlt; have hf1 := oY7.frozenAt j))
        all_goals (
          have hgr := oY7.stored j (.string s0)
          have oY8 := hgr.1
          have g8 := hgr.2
          rw [set_map] at oY8
          have HL8 : Hid ((ts.set j s0).length = n) := by unfold Hid; rw [List.length_set]; exact HT.out
          have HD8 : Hid (∀ x ∈ ts.set j s0, Drew d f x) := fun x hx => by
            rcases List.mem_or_eq_of_mem_set hx with q | q
            · exact HTS.out x q
            · rw [q]; exact HS0
          have kx7 := C0.blk_keep kx0 (show bx ≠ g by omega) g7
          have kr7 := C0.blk_keep kr0 (show br ≠ g by omega) g7
          have kt7 := C0.blk_keep kt0 (show bt ≠ g by omega) g7
          have oX7 := oX0.boxy (cur_boxy C0 g7)
          have B7 := B0.trans (grown_below g7 (fun k hk => by injection hk with hk; omega) B0.size)
          go_wp2
          go_roundw
          case rel =>
            refine ⟨j + 1, ts.set j s0, by omega, by go_num, HL8.out, HD8.out, ?_, ?_, ?_, ?_, rows_apart oX7 g8 (by omega), oY8, C7.put_other (show g ≠ gy by omega) hBy _, B7.setCell hwgy _⟩
            · exact blk_other ky7 hgn _
            · exact blk_other kx7 n3 _
            · exact blk_other kr7 n1 _
            · exact blk_other kt7 n2 _
          case measure => simp [intOf]; omega)
    · have hjn : j = n := by omega
      subst hjn
      have hsT : ∀ x ∈ ts, x.size ≤ 16777216 := fun x hx => by have := (HTS.out x hx).2.2; omega
      have HSZT := hide hsT
      clear hsT hlt
      obtain ⟨x0, x1, x2, xl⟩ := blk3 k_y
      obtain ⟨y0, y1, y2, yl⟩ := blk3 k_x
      obtain ⟨z0, z1, z2, zl⟩ := blk3 k_r
      obtain ⟨v0, v1, v2, vl⟩ := blk3 k_t
      have f0 := (blk_cells k_r 0).2
      have f1 := (blk_cells k_r 1).2
      have f2 := (blk_cells k_r 2).2
      have q0 := (blk_cells k_t 0).2
      have q1 := (blk_cells k_t 1).2
      have q2 := (blk_cells k_t 2).2
      go_wp2
      go_region
      all_goals (go_wp2)
      all_goals (refine bodyPost_ret (v := .tuple #[.agg #[.int .i64 (d : Int), .int .i64 (f : Int), .slice A1 j c1], .agg #[.int .i64 (d : Int), .int .i64 (f : Int), .slice (some ⟨gy, 0, none⟩) j c2]]) (by simp [results, Try.results20, go_sem, *]) rfl ?_)
      all_goals (
        have oXr := oX.row
        rw [HN.out] at oXr
        have hbq1 := boxAt_of k_r
        have hbq2 := boxAt_of k_t
        refine ⟨d, f, j, ss, ts, A1, some ⟨gy, 0, none⟩, c1, c2, hbd, HN.out, HT.out, HSS.out, HTS.out, rfl, ?_, ?_, ?_⟩
        · exact strs_of_own (own_boxy oXr (by decide) boxy) (by omega) HSZ.out
        · exact strs_of_own (own_boxy oY (by decide) boxy) (by omega) HSZT.out
        · repeat (first | (with_reducible exact G_) | (with_reducible refine Below.drew ?_) | (refine Below.setCell ?_ (show w.heap.size ≤ br from hwr) _) | (refine Below.setCell ?_ (show w.heap.size ≤ bt from hwt) _)))
end Go.Proofs.Ytccjedongkokoaa
