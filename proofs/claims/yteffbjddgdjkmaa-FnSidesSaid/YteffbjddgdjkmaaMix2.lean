/- The contracts of joined, l08Card of both packages. -/
import Derived.Test.YteffbjddgdjkmaaMix1
import Derived.Test.YteffbjddgdjkmaaArea4
import Derived.Test.YteffbjddgdjkmaaUCard
import Derived.Deep.RegionHeld3
import Derived.Deep.RegionLaw
import Derived.Deep.DeepCutAuto
namespace Go.Proofs.Yteffbjddgdjkmaa
open Go.ChangeShapes Go.WideShapes Go.ChangeAt Go.RowKit
set_option linter.unusedVariables false
set_option linter.unusedSimpArgs false
set_option maxRecDepth 10000

theorem zip_take (ss ts : List ByteArray) (j : Nat) (h1 : j < ss.length) (h2 : j < ts.length) : (List.zipWith mixB ss ts).take (j + 1) = (List.zipWith mixB ss ts).take j ++ [mixB ss[j] ts[j]] := by
  rw [List.take_succ_eq_append_getElem (by rw [List.length_zipWith]; omega), List.getElem_zipWith]
theorem zip_len (ss ts : List ByteArray) (h : ts.length = ss.length) : (List.zipWith mixB ss ts).length = ss.length := by rw [List.length_zipWith, h, Nat.min_self]
theorem zip_mem : ∀ (ss ts : List ByteArray) (x : ByteArray), x ∈ List.zipWith mixB ss ts → ∃ a ∈ ss, ∃ b ∈ ts, x = mixB a b
  | [], _, x, h => by simp at h
  | _ :: _, [], x, h => by simp at h
  | a :: l, b :: m, x, h => by
    rw [List.zipWith_cons_cons] at h
    rcases List.mem_cons.1 h with h | h
    · exact ⟨a, List.mem_cons_self .., b, List.mem_cons_self .., h⟩
    · obtain ⟨a', ha, b', hb, hx⟩ := zip_mem l m x h
      exact ⟨a', List.mem_cons_of_mem _ ha, b', List.mem_cons_of_mem _ hb, hx⟩
theorem box3a (w : World) (o1 o2 o3 : Obj) : (((w.alloc o1).alloc o2).alloc o3).heap[w.heap.size]? = some o1 := blk_alloc (blk_alloc (blk_new w o1) o2) o3
theorem box3b (w : World) (o1 o2 o3 : Obj) : (((w.alloc o1).alloc o2).alloc o3).heap[w.heap.size + 1]? = some o2 := blk_alloc (blk_new_at (w.alloc o1) o2 (by simp)) o3
theorem box3c (w : World) (o1 o2 o3 : Obj) : (((w.alloc o1).alloc o2).alloc o3).heap[w.heap.size + 1 + 1]? = some o3 := blk_new_at ((w.alloc o1).alloc o2) o3 (by simp)
theorem blk3f' {w : World} {g : Nat} {t : TypeId} {a b c : Value} (h : w.heap[g]? = some (.cells #[a, b, c] t (0, 0))) :
    w.cell? ⟨g, 0, none⟩ = some a ∧ w.cell? ⟨g, 1, none⟩ = some b ∧ w.cell? ⟨g, 2, none⟩ = some c ∧ g < w.heap.size ∧ w.frozen? ⟨g, 0, none⟩ = false ∧ w.frozen? ⟨g, 1, none⟩ = false ∧ w.frozen? ⟨g, 2, none⟩ = false :=
  ⟨(blk_cells h 0).1, (blk_cells h 1).1, (blk_cells h 2).1, blk_lt h, (blk_cells h 0).2, (blk_cells h 1).2, (blk_cells h 2).2⟩
theorem first_blk {w w3 : World} {o o2 : Obj} {g B : Nat} (h : w.heap[g]? = some o) (hb : Below B (w.alloc o2).drew w3) (hg : g < B) : w3.heap[g]? = some o := blk_below (blk_drew (blk_alloc h _)) hb hg
set_option maxHeartbeats 3200000 in
theorem i_joined_yes (d f : Int) (B : Nat) (A A2 : Option Addr) (n c c2 : Nat) (ss ts : List ByteArray) (w : World) (hS : Strs w B A n ss) (hT : Strs w B A2 n ts) (hB : B ≤ w.heap.size) (hc1 : cardOk d f ss = true) (hc2 : cardOk d f ts = true) :
    Calls Try.prog 151 #[.agg #[.int .i64 d, .int .i64 f, .slice A n c], .agg #[.int .i64 d, .int .i64 f, .slice A2 n c2], .func (.func 152) #[] #[]] w (FreshCardB w.heap.size d f (List.zipWith mixB ss ts) true w) := by
  have hn := hS.nb
  have hl := hS.len
  have hl2 := hT.len
  have hzl := zip_len ss ts (by omega)
  have HZL : Hid ((List.zipWith mixB ss ts).length = n) := by unfold Hid; omega
  have HL := Lib.hid hl
  have HL2 := Lib.hid hl2
  have HC1 := Lib.hid hc1
  have HC2 := Lib.hid hc2
  have HAL : Hid (alike d f d f ss ts = true) := by unfold Hid alike; rw [hc1, hc2, hl, hl2]; simp
  have tok1 : True := trivial
  have hS2 := ((hS.alloc hB (.cells #[.int .i64 d, .int .i64 f, .slice A n c] 26)).alloc (by simp; omega) (.cells #[.int .i64 d, .int .i64 f, .slice A2 n c2] 26)).alloc (by simp; omega) (.cells #[.int .i64 0, .int .i64 0, .slice none 0 0] 26)
  have hT2 := ((hT.alloc hB (.cells #[.int .i64 d, .int .i64 f, .slice A n c] 26)).alloc (by simp; omega) (.cells #[.int .i64 d, .int .i64 f, .slice A2 n c2] 26)).alloc (by simp; omega) (.cells #[.int .i64 0, .int .i64 0, .slice none 0 0] 26)
  obtain ⟨i0, hi0, hz0, hz1, hz2i⟩ := info_parts info_str
  have hka := box3a w (.cells #[.int .i64 d, .int .i64 f, .slice A n c] 26) (.cells #[.int .i64 d, .int .i64 f, .slice A2 n c2] 26) (.cells #[.int .i64 0, .int .i64 0, .slice none 0 0] 26)
  have hkb := box3b w (.cells #[.int .i64 d, .int .i64 f, .slice A n c] 26) (.cells #[.int .i64 d, .int .i64 f, .slice A2 n c2] 26) (.cells #[.int .i64 0, .int .i64 0, .slice none 0 0] 26)
  have hkc := box3c w (.cells #[.int .i64 d, .int .i64 f, .slice A n c] 26) (.cells #[.int .i64 d, .int .i64 f, .slice A2 n c2] 26) (.cells #[.int .i64 0, .int .i64 0, .slice none 0 0] 26)
  clear hl hl2 hzl hc1 hc2
  go_enter Try.func151, Try.ntmps151
  go_wp2_with (first | (go_at_call_of 80 (Value.agg #[.int .i64 d, .int .i64 f, .slice A n c]); have _t := tok1; refine (i_CardOk _ _ _ _ _ ss _ (hS2.more (by simp; omega))).mono ?_; rw [HC1.out]; rintro e w1 ⟨rfl, hb1⟩; clear _t tok1; obtain ⟨hcb, hfb⟩ := bcell hb1; have hz_w1_0 : w.heap.size < w1.heap.size := (by have hzz := hb1.size; (try simp at hzz); omega); have hy_w1_0 := Nat.le_of_lt hz_w1_0; have hz_w1_1 : w.heap.size + 1 < w1.heap.size := (by have hzz := hb1.size; (try simp at hzz); omega); have hy_w1_1 := Nat.le_of_lt hz_w1_1; have hz_w1_2 : w.heap.size + 1 + 1 < w1.heap.size := (by have hzz := hb1.size; (try simp at hzz); omega); have hy_w1_2 := Nat.le_of_lt hz_w1_2; have hT3 := hT2.below (hb1.mono (by simp; omega))) | (go_at_call_of 80 (Value.agg #[.int .i64 d, .int .i64 f, .slice A2 n c2]); refine (i_CardOk _ _ _ _ _ ts _ (hT3.more (by omega))).mono ?_; rw [HC2.out]; rintro e w2 ⟨rfl, hb2⟩; obtain ⟨hcb2, hfb2⟩ := bcell hb2; (have hzw : w1.heap.size ≤ w2.heap.size := hb2.size); (have hb12 := hb1.trans (hb2.mono hb1.size)); (have hz20 := hb12.size); (have hz2 : w.heap.size + 3 ≤ w2.heap.size := (by simp at hz20; omega)); (have hzx0 : w.heap.size < w2.heap.size := (by omega)); (have hzx1 : w.heap.size + 1 < w2.heap.size := (by omega)); (have hzx2 : w.heap.size + 1 + 1 < w2.heap.size := (by omega))))
  have hka2 := blk_next hka hb12
  have hkb2 := blk_next hkb hb12
  have hkc2 := blk_next hkc hb12
  have hS3 := hS2.below (hb12.mono (by simp; omega))
  have hT3' := hT2.below (hb12.mono (by simp; omega))
  go_loopw [51] (fun i wr => ∃ (j : Nat) (A' : Option Addr) (c' : Nat), j ≤ n ∧ i = .int .i64 j ∧ wr.heap[w2.heap.size]? = some (.cells #[.int .i64 d, .int .i64 f, .slice A' j c'] 26 (0, 0)) ∧
    wr.ownsRow (w2.heap.size + 1) 9 1 (.slice A' j c') j (((List.zipWith mixB ss ts).take j).map Value.string) ∧ Below w2.heap.size w2 wr) (fun i _ => n - (intOf i).toNat)
  case atStart => exact ⟨0, none, 0, Nat.zero_le _, rfl, blk_new _ _, World.ownsRow_nil _ _ _ _, bel⟩
  case round =>
    obtain ⟨j, A', c', hj, rfl, hblk, hown, hb⟩ := hrel
    have hbs := hb.size
    have hX := blk_lt hblk
    obtain ⟨hd0, hd1, hd2, hdl, hdf0, hdf1, hdf2⟩ := blk3f' hblk
    have hkar := blk_below hka2 hb (by omega)
    have hkbr := blk_below hkb2 hb (by omega)
    have hkcr := blk_below hkc2 hb (by omega)
    obtain ⟨hu0, hu1, hu2, hul, huf0, huf1, huf2⟩ := blk3f' hkcr
    obtain ⟨ha0, ha1, ha2, hal⟩ := blk3 hkar
    obtain ⟨he0, he1, he2, hel⟩ := blk3 hkbr
    clear hcb2 hfb2
    by_cases hlt : j < n
    · obtain ⟨hk', ad, rfl, hab, hcw, hsb⟩ := (hS3.below (hb.mono (by omega))).at_ (k := j) hlt
      obtain ⟨hk2', ad2, rfl, hab2, hcw2, hsb2⟩ := (hT3'.below (hb.mono (by omega))).at_ (k := j) hlt
      have hone : ∀ u ∈ [Value.string (mixB ss[j] ts[j])], u.oneCell' = true := by intro u hu; simp at hu; subst hu; rfl
      have HST : Hid (((List.zipWith mixB ss ts).take j).map Value.string ++ [Value.string (mixB ss[j] ts[j])] = ((List.zipWith mixB ss ts).take (j + 1)).map Value.string) := by unfold Hid; rw [zip_take ss ts j hk' hk2', List.map_append]; rfl
      have hq1 : (ad.add j).block < wr.heap.size := by rw [block_of_add]; omega
      have hq2 : (ad2.add j).block < wr.heap.size := by rw [block_of_add]; omega
      go_wp2
      go_region_law (first | (go_simp; go_at_call 152; refine (i_UpperOf _ _ _ hsb hsb2).mono ?_; rintro e w' ⟨rfl, rfl⟩) | (refine step_append_sl _ rfl (.tmp 57) (.tmp 66) _ rfl (w2.heap.size + 1) 9 i0 _ 1 16 Try.underlying24 hi0 hz0 hz1 hz2i rfl (by omega) (.slice A' j c') j (((List.zipWith mixB ss ts).take j).map Value.string) rfl ?_ (wr.heap.size + 1) (some ⟨wr.heap.size, 0, none⟩) 1 1 [Value.string (mixB ss[j] ts[j])] rfl ?_ hone ?_ ?_ ?_ ?_; (focus ((repeat (first | (with_reducible exact hown) | (with_reducible refine World.ownsRow.drew ?_) | (with_reducible refine World.ownsRow.alloc ?_ _))); (first | done | fail))); (first | exact (reads_one _ _).drew | exact (reads_one _ _)); (unfold maxLen; omega); omega; (simp; omega); intro A3 c3 w3 ho3 hb3; obtain ⟨hcb3, hfb3⟩ := bcellB hb3))
      all_goals
        go_wp2
        go_roundw
        case rel =>
          have hbl := blk_set (first_blk hblk hb3 (by omega)) 2 (.slice A3 (j + 1) c3)
          rw [HST.out] at ho3
          exact ⟨j + 1, A3, c3, by omega, by go_num, hbl, ownsRow_setCell_below ho3 (by simp) _, bel⟩
        case measure => simp [intOf]; omega
    · have hjn : j = n := by omega
      subst hjn
      have ht : (List.zipWith mixB ss ts).take j = List.zipWith mixB ss ts := List.take_of_length_le (by rw [HZL.out]; exact Nat.le_refl _)
      rw [ht] at hown
      have HO := hide hown
      clear hown ht
      go_wp2
      refine bodyPost_ret (v := .tuple #[.agg #[.int .i64 d, .int .i64 f, .slice A' j c'], .bool true]) (by simp [results, Try.results151, go_sem, *]) rfl ?_
      refine ⟨A', c', (by rw [HZL.out]; try rfl), ?_, bel⟩
      rw [HZL.out]
      exact own_up (unhide HO) upr (by first | exact Nat.le_refl _ | (simp; done) | omega | (simp; omega) | exact (‹_ ∧ _ ∧ Below _ _ _›).2.2.size)
set_option maxHeartbeats 1600000 in
theorem i_joined_no (d f d2 f2 : Int) (B : Nat) (A A2 : Option Addr) (n c n2 c2 : Nat) (ss ts : List ByteArray) (w : World) (hS : Strs w B A n ss) (hT : Strs w B A2 n2 ts) (hB : B ≤ w.heap.size) (hc1 : cardOk d f ss = false) :
    Calls Try.prog 151 #[.agg #[.int .i64 d, .int .i64 f, .slice A n c], .agg #[.int .i64 d2, .int .i64 f2, .slice A2 n2 c2], .func (.func 152) #[] #[]] w (FreshCardB w.heap.size 0 0 [] false w) := by
  have HC1 := Lib.hid hc1
  have HAL : Hid (alike d f d2 f2 ss ts = false) := by unfold Hid alike; rw [hc1]; rfl
  have hS2 := ((hS.alloc hB (.cells #[.int .i64 d, .int .i64 f, .slice A n c] 26)).alloc (by simp; omega) (.cells #[.int .i64 d2, .int .i64 f2, .slice A2 n2 c2] 26)).alloc (by simp; omega) (.cells #[.int .i64 0, .int .i64 0, .slice none 0 0] 26)
  have hT2 := ((hT.alloc hB (.cells #[.int .i64 d, .int .i64 f, .slice A n c] 26)).alloc (by simp; omega) (.cells #[.int .i64 d2, .int .i64 f2, .slice A2 n2 c2] 26)).alloc (by simp; omega) (.cells #[.int .i64 0, .int .i64 0, .slice none 0 0] 26)
  clear hc1
  go_enter Try.func151, Try.ntmps151
  go_wp2_with (go_at_call_of 80 (Value.agg #[.int .i64 d, .int .i64 f, .slice A n c]); refine (i_CardOk _ _ _ _ _ ss _ (hS2.more (by simp; omega))).mono ?_; rw [HC1.out]; rintro e w2 ⟨rfl, hb2⟩; obtain ⟨hcb2, hfb2⟩ := bcell hb2; have hz_w2_0 : w.heap.size < w2.heap.size := (by have hzz := hb2.size; (try simp at hzz); omega); have hy_w2_0 := Nat.le_of_lt hz_w2_0; have hz_w2_1 : w.heap.size + 1 < w2.heap.size := (by have hzz := hb2.size; (try simp at hzz); omega); have hy_w2_1 := Nat.le_of_lt hz_w2_1; have hz_w2_2 : w.heap.size + 1 + 1 < w2.heap.size := (by have hzz := hb2.size; (try simp at hzz); omega); have hy_w2_2 := Nat.le_of_lt hz_w2_2)
  refine bodyPost_ret (v := .tuple #[.agg #[.int .i64 0, .int .i64 0, .slice none 0 0], .bool false]) (by simp [results, Try.results151, go_sem, *]) rfl ?_
  exact ⟨none, 0, rfl, World.ownsRow_nil _ _ _ _, bel⟩
set_option maxHeartbeats 3200000 in
theorem s_l08Card_yes (d f : Int) (B : Nat) (A A2 : Option Addr) (n c c2 : Nat) (ss ts : List ByteArray) (w : World) (hS : Strs w B A n ss) (hT : Strs w B A2 n ts) (hB : B ≤ w.heap.size) (hc1 : cardOk d f ss = true) (hc2 : cardOk d f ts = true) :
    Calls Try.prog 106 #[.agg #[.int .i64 d, .int .i64 f, .slice A n c], .agg #[.int .i64 d, .int .i64 f, .slice A2 n c2], .bool true] w (FreshCardB w.heap.size d f (List.zipWith mixB ss ts) true w) := by
  have hn := hS.nb
  have hl := hS.len
  have hl2 := hT.len
  have hzl := zip_len ss ts (by omega)
  have HZL : Hid ((List.zipWith mixB ss ts).length = n) := by unfold Hid; omega
  have HL := Lib.hid hl
  have HL2 := Lib.hid hl2
  have HC1 := Lib.hid hc1
  have HC2 := Lib.hid hc2
  have HAL : Hid (alike d f d f ss ts = true) := by unfold Hid alike; rw [hc1, hc2, hl, hl2]; simp
  have tok1 : True := trivial
  have hS2 := ((hS.alloc hB (.cells #[.int .i64 d, .int .i64 f, .slice A n c] 26)).alloc (by simp; omega) (.cells #[.int .i64 d, .int .i64 f, .slice A2 n c2] 26)).alloc (by simp; omega) (.cells #[.int .i64 0, .int .i64 0, .slice none 0 0] 26)
  have hT2 := ((hT.alloc hB (.cells #[.int .i64 d, .int .i64 f, .slice A n c] 26)).alloc (by simp; omega) (.cells #[.int .i64 d, .int .i64 f, .slice A2 n c2] 26)).alloc (by simp; omega) (.cells #[.int .i64 0, .int .i64 0, .slice none 0 0] 26)
  obtain ⟨i0, hi0, hz0, hz1, hz2i⟩ := info_parts info_str
  have hka := box3a w (.cells #[.int .i64 d, .int .i64 f, .slice A n c] 26) (.cells #[.int .i64 d, .int .i64 f, .slice A2 n c2] 26) (.cells #[.int .i64 0, .int .i64 0, .slice none 0 0] 26)
  have hkb := box3b w (.cells #[.int .i64 d, .int .i64 f, .slice A n c] 26) (.cells #[.int .i64 d, .int .i64 f, .slice A2 n c2] 26) (.cells #[.int .i64 0, .int .i64 0, .slice none 0 0] 26)
  have hkc := box3c w (.cells #[.int .i64 d, .int .i64 f, .slice A n c] 26) (.cells #[.int .i64 d, .int .i64 f, .slice A2 n c2] 26) (.cells #[.int .i64 0, .int .i64 0, .slice none 0 0] 26)
  clear hl hl2 hzl hc1 hc2
  go_enter Try.func106, Try.ntmps106
  go_wp2_with (go_at_call 155; refine (s_l08Same d f d f _ A A2 n c n c2 ss ts _ (hS2.more (by simp; omega)) (hT2.more (by simp; omega)) (Nat.le_refl _)).mono ?_; rw [HAL.out]; rintro e w2 ⟨rfl, hb12⟩; obtain ⟨hcb2, hfb2⟩ := bcell hb12; (have hz20 := hb12.size); (have hz2 : w.heap.size + 3 ≤ w2.heap.size := (by simp at hz20; omega)); (have hzx0 : w.heap.size < w2.heap.size := (by omega)); (have hzx1 : w.heap.size + 1 < w2.heap.size := (by omega)); (have hzx2 : w.heap.size + 1 + 1 < w2.heap.size := (by omega)))
  have hka2 := blk_next hka hb12
  have hkb2 := blk_next hkb hb12
  have hkc2 := blk_next hkc hb12
  have hS3 := hS2.below (hb12.mono (by simp; omega))
  have hT3' := hT2.below (hb12.mono (by simp; omega))
  go_loopw [9] (fun i wr => ∃ (j : Nat) (A' : Option Addr) (c' : Nat), j ≤ n ∧ i = .int .i64 j ∧ wr.heap[w2.heap.size]? = some (.cells #[.int .i64 d, .int .i64 f, .slice A' j c'] 26 (0, 0)) ∧
    wr.ownsRow (w2.heap.size + 1) 9 1 (.slice A' j c') j (((List.zipWith mixB ss ts).take j).map Value.string) ∧ Below w2.heap.size w2 wr) (fun i _ => n - (intOf i).toNat)
  case atStart => exact ⟨0, none, 0, Nat.zero_le _, rfl, blk_new _ _, World.ownsRow_nil _ _ _ _, bel⟩
  case round =>
    obtain ⟨j, A', c', hj, rfl, hblk, hown, hb⟩ := hrel
    have hbs := hb.size
    have hX := blk_lt hblk
    obtain ⟨hd0, hd1, hd2, hdl, hdf0, hdf1, hdf2⟩ := blk3f' hblk
    have hkar := blk_below hka2 hb (by omega)
    have hkbr := blk_below hkb2 hb (by omega)
    have hkcr := blk_below hkc2 hb (by omega)
    obtain ⟨hu0, hu1, hu2, hul, huf0, huf1, huf2⟩ := blk3f' hkcr
    obtain ⟨ha0, ha1, ha2, hal⟩ := blk3 hkar
    obtain ⟨he0, he1, he2, hel⟩ := blk3 hkbr
    clear hcb2 hfb2
    by_cases hlt : j < n
    · obtain ⟨hk', ad, rfl, hab, hcw, hsb⟩ := (hS3.below (hb.mono (by omega))).at_ (k := j) hlt
      obtain ⟨hk2', ad2, rfl, hab2, hcw2, hsb2⟩ := (hT3'.below (hb.mono (by omega))).at_ (k := j) hlt
      have hone : ∀ u ∈ [Value.string (mixB ss[j] ts[j])], u.oneCell' = true := by intro u hu; simp at hu; subst hu; rfl
      have HST : Hid (((List.zipWith mixB ss ts).take j).map Value.string ++ [Value.string (mixB ss[j] ts[j])] = ((List.zipWith mixB ss ts).take (j + 1)).map Value.string) := by unfold Hid; rw [zip_take ss ts j hk' hk2', List.map_append]; rfl
      have hq1 : (ad.add j).block < wr.heap.size := by rw [block_of_add]; omega
      have hq2 : (ad2.add j).block < wr.heap.size := by rw [block_of_add]; omega
      go_wp2
      go_region_law (first | (go_simp; go_at_call 156; refine (s_l08Mix _ _ _ hsb hsb2).mono ?_; rintro e w' ⟨rfl, rfl⟩) | (refine step_append_sl _ rfl (.tmp 28) (.tmp 41) _ rfl (w2.heap.size + 1) 9 i0 _ 1 16 Try.underlying24 hi0 hz0 hz1 hz2i rfl (by omega) (.slice A' j c') j (((List.zipWith mixB ss ts).take j).map Value.string) rfl ?_ (wr.heap.size + 1) (some ⟨wr.heap.size, 0, none⟩) 1 1 [Value.string (mixB ss[j] ts[j])] rfl ?_ hone ?_ ?_ ?_ ?_; (focus ((repeat (first | (with_reducible exact hown) | (with_reducible refine World.ownsRow.drew ?_) | (with_reducible refine World.ownsRow.alloc ?_ _))); (first | done | fail))); (first | exact (reads_one _ _).drew | exact (reads_one _ _)); (unfold maxLen; omega); omega; (simp; omega); intro A3 c3 w3 ho3 hb3; obtain ⟨hcb3, hfb3⟩ := bcellB hb3))
      all_goals
        go_wp2
        go_roundw
        case rel =>
          have hbl := blk_set (first_blk hblk hb3 (by omega)) 2 (.slice A3 (j + 1) c3)
          rw [HST.out] at ho3
          exact ⟨j + 1, A3, c3, by omega, by go_num, hbl, ownsRow_setCell_below ho3 (by simp) _, bel⟩
        case measure => simp [intOf]; omega
    · have hjn : j = n := by omega
      subst hjn
      have ht : (List.zipWith mixB ss ts).take j = List.zipWith mixB ss ts := List.take_of_length_le (by rw [HZL.out]; exact Nat.le_refl _)
      rw [ht] at hown
      have HO := hide hown
      clear hown ht
      go_wp2
      refine bodyPost_ret (v := .tuple #[.agg #[.int .i64 d, .int .i64 f, .slice A' j c'], .bool true]) (by simp [results, Try.results106, go_sem, *]) rfl ?_
      refine ⟨A', c', (by rw [HZL.out]; try rfl), ?_, bel⟩
      rw [HZL.out]
      exact own_up (unhide HO) upr (by first | exact Nat.le_refl _ | (simp; done) | omega | (simp; omega) | exact (‹_ ∧ _ ∧ Below _ _ _›).2.2.size)
set_option maxHeartbeats 1600000 in
theorem s_l08Card_no (d f d2 f2 : Int) (B : Nat) (A A2 : Option Addr) (n c n2 c2 : Nat) (ss ts : List ByteArray) (w : World) (hS : Strs w B A n ss) (hT : Strs w B A2 n2 ts) (hB : B ≤ w.heap.size) (hc1 : cardOk d f ss = false) :
    Calls Try.prog 106 #[.agg #[.int .i64 d, .int .i64 f, .slice A n c], .agg #[.int .i64 d2, .int .i64 f2, .slice A2 n2 c2], .bool true] w (FreshCardB w.heap.size 0 0 [] false w) := by
  have HC1 := Lib.hid hc1
  have HAL : Hid (alike d f d2 f2 ss ts = false) := by unfold Hid alike; rw [hc1]; rfl
  have hS2 := ((hS.alloc hB (.cells #[.int .i64 d, .int .i64 f, .slice A n c] 26)).alloc (by simp; omega) (.cells #[.int .i64 d2, .int .i64 f2, .slice A2 n2 c2] 26)).alloc (by simp; omega) (.cells #[.int .i64 0, .int .i64 0, .slice none 0 0] 26)
  have hT2 := ((hT.alloc hB (.cells #[.int .i64 d, .int .i64 f, .slice A n c] 26)).alloc (by simp; omega) (.cells #[.int .i64 d2, .int .i64 f2, .slice A2 n2 c2] 26)).alloc (by simp; omega) (.cells #[.int .i64 0, .int .i64 0, .slice none 0 0] 26)
  clear hc1
  go_enter Try.func106, Try.ntmps106
  go_wp2_with (go_at_call 155; refine (s_l08Same d f d2 f2 _ A A2 n c n2 c2 ss ts _ (hS2.more (by simp; omega)) (hT2.more (by simp; omega)) (Nat.le_refl _)).mono ?_; rw [HAL.out]; rintro e w2 ⟨rfl, hb2⟩; obtain ⟨hcb2, hfb2⟩ := bcell hb2; have hz_w2_0 : w.heap.size < w2.heap.size := (by have hzz := hb2.size; (try simp at hzz); omega); have hy_w2_0 := Nat.le_of_lt hz_w2_0; have hz_w2_1 : w.heap.size + 1 < w2.heap.size := (by have hzz := hb2.size; (try simp at hzz); omega); have hy_w2_1 := Nat.le_of_lt hz_w2_1; have hz_w2_2 : w.heap.size + 1 + 1 < w2.heap.size := (by have hzz := hb2.size; (try simp at hzz); omega); have hy_w2_2 := Nat.le_of_lt hz_w2_2)
  refine bodyPost_ret (v := .tuple #[.agg #[.int .i64 0, .int .i64 0, .slice none 0 0], .bool false]) (by simp [results, Try.results106, go_sem, *]) rfl ?_
  exact ⟨none, 0, rfl, World.ownsRow_nil _ _ _ _, bel⟩
end Go.Proofs.Yteffbjddgdjkmaa
