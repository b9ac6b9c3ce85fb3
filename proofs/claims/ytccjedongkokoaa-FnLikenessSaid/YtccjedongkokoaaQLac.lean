/- Contracts of the program's and the reference's functions (Mix2, Mix3). -/
import Derived.Deep.DeepCutAuto
import Derived.Deep.RegionHeld3
import Derived.Deep.RegionLaw
import Derived.Test.YtccjedongkokoaaRows
import Derived.Test.YtccjedongkokoaaQLaa
import Derived.Test.YtccjedongkokoaaQLo
import Derived.Test.YtccjedongkokoaaQLb
namespace Go.Proofs.Ytccjedongkokoaa
open Go.ChangeShapes Go.WideShapes Go.ChangeAt Go.RowKit
set_option linter.unusedVariables false
set_option linter.unusedSimpArgs false
set_option maxRecDepth 10000
theorem zip_take (ss ts : List ByteArray) (j : Nat) (h1 : j < ss.length) (h2 : j < ts.length) : (List.zipWith mixB ss ts).take (j + 1) = (List.zipWith mixB ss ts).take j ++ [mixB ss[j] ts[j]] := by
  rw [List.take_succ_eq_append_getElem (by rw [List.length_zipWith]; omega), List.getElem_zipWith]
theorem zip_len (ss ts : List ByteArray) (h : ts.length = ss.length) : (List.zipWith mixB ss ts).length = ss.length := by rw [List.length_zipWith, h, Nat.min_self]
theorem box3a (w : World) (o1 o2 o3 : Obj) : (((w.alloc o1).alloc o2).alloc o3).heap[w.heap.size]? = some o1 := blk_alloc (blk_alloc (blk_new w o1) o2) o3
theorem box3b (w : World) (o1 o2 o3 : Obj) : (((w.alloc o1).alloc o2).alloc o3).heap[w.heap.size + 1]? = some o2 := blk_alloc (blk_new_at (w.alloc o1) o2 (by simp)) o3
theorem box3c (w : World) (o1 o2 o3 : Obj) : (((w.alloc o1).alloc o2).alloc o3).heap[w.heap.size + 1 + 1]? = some o3 := blk_new_at ((w.alloc o1).alloc o2) o3 (by simp)
theorem blk3f' {w : World} {g : Nat} {t : TypeId} {a b c : Value} (h : w.heap[g]? = some (.cells #[a, b, c] t (0, 0))) :
    w.cell? ⟨g, 0, none⟩ = some a ∧ w.cell? ⟨g, 1, none⟩ = some b ∧ w.cell? ⟨g, 2, none⟩ = some c ∧ g < w.heap.size ∧ w.frozen? ⟨g, 0, none⟩ = false ∧ w.frozen? ⟨g, 1, none⟩ = false ∧ w.frozen? ⟨g, 2, none⟩ = false :=
  ⟨(blk_cells h 0).1, (blk_cells h 1).1, (blk_cells h 2).1, blk_lt h, (blk_cells h 0).2, (blk_cells h 1).2, (blk_cells h 2).2⟩
theorem first_blk {w w3 : World} {o o2 : Obj} {g B : Nat} (h : w.heap[g]? = some o) (hb : Below B (w.alloc o2).drew w3) (hg : g < B) : w3.heap[g]? = some o := blk_below (blk_drew (blk_alloc h _)) hb hg
set_option maxHeartbeats 3200000 in
theorem s_l08Card_yes (d f : Int) (B : Nat) (A A2 : Option Addr) (n c c2 : Nat) (ss ts : List ByteArray) (w : World) (hS : Strs w B A n ss) (hT : Strs w B A2 n ts) (hB : B ≤ w.heap.size) (hc1 : cardOk d f ss = true) (hc2 : cardOk d f ts = true) :
    Calls Try.prog 64 #[.agg #[.int .i64 d, .int .i64 f, .slice A n c], .agg #[.int .i64 d, .int .i64 f, .slice A2 n c2], .bool true] w (FreshCardB w.heap.size d f (List.zipWith mixB ss ts) true w) := by
  have hn := hS.nb
  have hl := hS.len
  have hl2 := hT.len
  have hzl := zip_len ss ts (by omega)
  have HZL : Hid ((List.zipWith mixB ss ts).length = n) := by unfold Hid; omega
  have HL := Lib.hid hl
  have HL2 := Lib.hid hl2
  have HC1 := Lib.hid hc1
  have HC2 := Lib.hid hc2
  have HAL : Hid (alike d f d f ss ts = true) := by unfold Hid alike; rw [hc1, hc2, hl, hl2]; simp
  have tok1 : True := trivial
  have hS2 := ((hS.alloc hB (.cells #[.int .i64 d, .int .i64 f, .slice A n c] 26)).alloc (by simp; omega) (.cells #[.int .i64 d, .int .i64 f, .slice A2 n c2] 26)).alloc (by simp; omega) (.cells #[.int .i64 0, .int .i64 0, .slice none 0 0] 26)
  have hT2 := ((hT.alloc hB (.cells #[.int .i64 d, .int .i64 f, .slice A n c] 26)).alloc (by simp; omega) (.cells #[.int .i64 d, .int .i64 f, .slice A2 n c2] 26)).alloc (by simp; omega) (.cells #[.int .i64 0, .int .i64 0, .slice none 0 0] 26)
  obtain ⟨i0, hi0, hz0, hz1, hz2i⟩ := info_parts info_str
  have hka := box3a w (.cells #[.int .i64 d, .int .i64 f, .slice A n c] 26) (.cells #[.int .i64 d, .int .i64 f, .slice A2 n c2] 26) (.cells #[.int .i64 0, .int .i64 0, .slice none 0 0] 26)
  have hkb := box3b w (.cells #[.int .i64 d, .int .i64 f, .slice A n c] 26) (.cells #[.int .i64 d, .int .i64 f, .slice A2 n c2] 26) (.cells #[.int .i64 0, .int .i64 0, .slice none 0 0] 26)
  have hkc := box3c w (.cells #[.int .i64 d, .int .i64 f, .slice A n c] 26) (.cells #[.int .i64 d, .int .i64 f, .slice A2 n c2] 26) (.cells #[.int .i64 0, .int .i64 0, .slice none 0 0] 26)
  clear hl hl2 hzl hc1 hc2
  go_enter Try.func64, Try.ntmps64
  go_wp2_with (go_at_call 106; refine (s_l08Same d f d f _ A A2 n c n c2 ss ts _ (hS2.more (by simp; omega)) (hT2.more (by simp; omega)) (Nat.le_refl _)).mono ?_; rw [HAL.out]; rintro e w2 ⟨rfl, hb12⟩; obtain ⟨hcb2, hfb2⟩ := bcell hb12; (have hz20 := hb12.size); (have hz2 : w.heap.size + 3 ≤ w2.heap.size := (by simp at hz20; omega)); (have hzx0 : w.heap.size < w2.heap.size := (by omega)); (have hzx1 : w.heap.size + 1 < w2.heap.size := (by omega)); (have hzx2 : w.heap.size + 1 + 1 < w2.heap.size := (by omega)))
  have hka2 := blk_next hka hb12
  have hkb2 := blk_next hkb hb12
  have hkc2 := blk_next hkc hb12
  have hS3 := hS2.below (hb12.mono (by simp; omega))
  have hT3' := hT2.below (hb12.mono (by simp; omega))
  go_loopw [9] (fun i wr => ∃ (j : Nat) (A' : Option Addr) (c' : Nat), j ≤ n ∧ i = .int .i64 j ∧ wr.heap[w2.heap.size]? = some (.cells #[.int .i64 d, .int .i64 f, .slice A' j c'] 26 (0, 0)) ∧
    wr.ownsRow (w2.heap.size + 1) 9 1 (.slice A' j c') j (((List.zipWith mixB ss ts).take j).map Value.string) ∧ Below w2.heap.size w2 wr) (fun i _ => n - (intOf i).toNat)
  case atStart => exact ⟨0, none, 0, Nat.zero_le _, rfl, blk_new _ _, World.ownsRow_nil _ _ _ _, bel⟩
  case round =>
    obtain ⟨j, A', c', hj, rfl, hblk, hown, hb⟩ := hrel
    have hbs := hb.size
    have hX := blk_lt hblk
    obtain ⟨hd0, hd1, hd2, hdl, hdf0, hdf1, hdf2⟩ := blk3f' hblk
    have hkar := blk_below hka2 hb (by omega)
    have hkbr := blk_below hkb2 hb (by omega)
    have hkcr := blk_below hkc2 hb (by omega)
    obtain ⟨hu0, hu1, hu2, hul, huf0, huf1, huf2⟩ := blk3f' hkcr
    obtain ⟨ha0, ha1, ha2, hal⟩ := blk3 hkar
    obtain ⟨he0, he1, he2, hel⟩ := blk3 hkbr
    clear hcb2 hfb2
    by_cases hlt : j < n
    · obtain ⟨hk', ad, rfl, hab, hcw, hsb⟩ := (hS3.below (hb.mono (by omega))).at_ (k := j) hlt
      obtain ⟨hk2', ad2, rfl, hab2, hcw2, hsb2⟩ := (hT3'.below (hb.mono (by omega))).at_ (k := j) hlt
      have hone : ∀ u ∈ [Value.string (mixB ss[j] ts[j])], u.oneCell' = true := by intro u hu; simp at hu; subst hu; rfl
      have HST : Hid (((List.zipWith mixB ss ts).take j).map Value.string ++ [Value.string (mixB ss[j] ts[j])] = ((List.zipWith mixB ss ts).take (j + 1)).map Value.string) := by unfold Hid; rw [zip_take ss ts j hk' hk2', List.map_append]; rfl
      have hq1 : (ad.add j).block < wr.heap.size := by rw [block_of_add]; omega
      have hq2 : (ad2.add j).block < wr.heap.size := by rw [block_of_add]; omega
      go_wp2
      go_region_law (first | (go_simp; go_at_call 107; refine (s_l08Mix _ _ _ hsb hsb2).mono ?_; rintro e w' ⟨rfl, rfl⟩) | (refine step_append_sl _ rfl (.tmp 28) (.tmp 41) _ rfl (w2.heap.size + 1) 9 i0 _ 1 16 Try.underlying24 hi0 hz0 hz1 hz2i rfl (by omega) (.slice A' j c') j (((List.zipWith mixB ss ts).take j).map Value.string) rfl ?_ (wr.heap.size + 1) (some ⟨wr.heap.size, 0, none⟩) 1 1 [Value.string (mixB ss[j] ts[j])] rfl ?_ hone ?_ ?_ ?_ ?_; (focus ((repeat (first | (with_reducible exact hown) | (with_reducible refine World.ownsRow.drew ?_) | (with_reducible refine World.ownsRow.alloc ?_ _))); (first | done | fail))); (first | exact (reads_one _ _).drew | exact (reads_one _ _)); (unfold maxLen; omega); omega; (simp; omega); intro A3 c3 w3 ho3 hb3; obtain ⟨hcb3, hfb3⟩ := bcellB hb3))
      all_goals
        go_wp2
        go_roundw
        case rel =>
          have hbl := blk_set (first_blk hblk hb3 (by omega)) 2 (.slice A3 (j + 1) c3)
          rw [HST.out] at ho3
          exact ⟨j + 1, A3, c3, by omega, by go_num, hbl, ownsRow_setCell_below ho3 (by simp) _, bel⟩
        case measure => simp [intOf]; omega
    · have hjn : j = n := by omega
      subst hjn
      have ht : (List.zipWith mixB ss ts).take j = List.zipWith mixB ss ts := List.take_of_length_le (by rw [HZL.out]; exact Nat.le_refl _)
      rw [ht] at hown
      have HO := hide hown
      clear hown ht
      go_wp2
      refine bodyPost_ret (v := .tuple #[.agg #[.int .i64 d, .int .i64 f, .slice A' j c'], .bool true]) (by simp [results, Try.results64, go_sem, *]) rfl ?_
      refine ⟨A', c', (by rw [HZL.out]; try rfl), ?_, bel⟩
      rw [HZL.out]
      exact own_up (unhide HO) upr (by first | exact Nat.le_refl _ | (simp; done) | omega | (simp; omega) | exact (‹_ ∧ _ ∧ Below _ _ _›).2.2.size)
end Go.Proofs.Ytccjedongkokoaa
namespace Go.Proofs.Ytccjedongkokoaa
open Go.ChangeShapes Go.WideShapes Go.ChangeAt Go.RowKit
set_option linter.unusedVariables false
set_option linter.unusedSimpArgs false
set_option maxRecDepth 10000
def symRes (d f : Int) (ss : List ByteArray) : Int × Int × List ByteArray := if cardOk d f ss = true then (d, f, List.zipWith mixB ss ss.reverse) else (0, 0, [])
theorem cardOk_rev {d f : Int} {ss : List ByteArray} (h : cardOk d f ss = true) : cardOk d f ss.reverse = true := by
  unfold cardOk at h ⊢
  simpa [List.length_reverse, List.all_reverse] using h
def CardN (N : Nat) (d f : Int) (xs : List Value) (w : World) (e : Ending) (w' : World) : Prop :=
  ∃ A c, e = .returned (.agg #[.int .i64 d, .int .i64 f, .slice A N c]) ∧ w'.ownsRow w.heap.size 9 1 (.slice A N c) N xs ∧ Below w.heap.size w w'
def CardNB (N : Nat) (d f : Int) (xs : List Value) (b : Bool) (w : World) (e : Ending) (w' : World) : Prop :=
  ∃ A c, e = .returned (.tuple #[.agg #[.int .i64 d, .int .i64 f, .slice A N c], .bool b]) ∧ w'.ownsRow w.heap.size 9 1 (.slice A N c) N xs ∧ Below w.heap.size w w'
theorem leafQ {wf w0 : World} {b g : Nat} {d f : Int} {N : Nat} {xs : List Value} {A : Option Addr} {c : Nat} {z0 z1 z2 : Value} (hk : wf.heap[g]? = some (.cells #[z0, z1, z2] 26 (0, 0))) (ho : wf.ownsRow b 9 1 (.slice A N c) N xs) (hb : Below b w0 wf) (hg : b ≤ g) :
    (((wf.setCell ⟨g, 0, none⟩ (.int .i64 d)).setCell ⟨g, 1, none⟩ (.int .i64 f)).setCell ⟨g, 2, none⟩ (.slice A N c)).heap[g]? = some (.cells #[.int .i64 d, .int .i64 f, .slice A N c] 26 (0, 0)) ∧ (((wf.setCell ⟨g, 0, none⟩ (.int .i64 d)).setCell ⟨g, 1, none⟩ (.int .i64 f)).setCell ⟨g, 2, none⟩ (.slice A N c)).ownsRow b 9 1 (.slice A N c) N xs ∧ b ≤ g ∧ Below b w0 (((wf.setCell ⟨g, 0, none⟩ (.int .i64 d)).setCell ⟨g, 1, none⟩ (.int .i64 f)).setCell ⟨g, 2, none⟩ (.slice A N c)) :=
  ⟨blk3_set hk _ _ _, own3_set ho hk (by decide) _ _ _, hg, bel⟩
theorem leafQN {wf w0 : World} {b g : Nat} {d f : Int} {N : Nat} {xs : List Value} {A : Option Addr} {c : Nat} (hb : Below b w0 wf) (ho : wf.ownsRow b 9 1 (.slice A N c) N xs) (hg : g = wf.heap.size) (hg2 : b ≤ g) :
    (wf.alloc (.cells #[.int .i64 d, .int .i64 f, .slice A N c] 26)).heap[g]? = some (.cells #[.int .i64 d, .int .i64 f, .slice A N c] 26 (0, 0)) ∧ (wf.alloc (.cells #[.int .i64 d, .int .i64 f, .slice A N c] 26)).ownsRow b 9 1 (.slice A N c) N xs ∧ b ≤ g ∧ Below b w0 (wf.alloc (.cells #[.int .i64 d, .int .i64 f, .slice A N c] 26)) := by
  subst hg
  exact ⟨blk_new_at _ _ rfl, ho.alloc _, hg2, bel⟩
theorem reads_strs {W : World} {base n c : Nat} {A : Option Addr} {ts : List ByteArray} (h : W.ownsRow base 9 1 (.slice A n c) n (ts.map Value.string)) (hl : ts.length = n) (hn : n ≤ 16777216) (hs : ∀ s ∈ ts, s.size ≤ 16777216) : Strs W W.heap.size A n ts := by
  subst hl; exact strs_of_own h hn hs
set_option maxHeartbeats 1600000 in
theorem s_UpperCard_yes (d f : Int) (A A2 : Option Addr) (c c2 : Nat) (ss ts : List ByteArray) (w : World) (hS : Strs w w.heap.size A ss.length ss) (hT : Strs w w.heap.size A2 ss.length ts) (hc1 : cardOk d f ss = true) (hc2 : cardOk d f ts = true) :
    Calls Try.prog 21 #[.agg #[.int .i64 d, .int .i64 f, .slice A ss.length c], .agg #[.int .i64 d, .int .i64 f, .slice A2 ss.length c2]] w (CardNB ss.length d f ((List.zipWith mixB ss ts).map Value.string) true w) := by
  have HZL := Lib.hid (zip_len ss ts hT.len)
  have hS2 := ((hS.alloc (Nat.le_refl _) (.cells #[.int .i64 d, .int .i64 f, .slice A ss.length c] 26)).alloc (by simp) (.cells #[.int .i64 d, .int .i64 f, .slice A2 ss.length c2] 26)).alloc (by first | omega | (simp; first | done | omega)) (.cells #[.int .i64 0, .int .i64 0, .slice none 0 0] 26)
  have hT2 := ((hT.alloc (Nat.le_refl _) (.cells #[.int .i64 d, .int .i64 f, .slice A ss.length c] 26)).alloc (by simp) (.cells #[.int .i64 d, .int .i64 f, .slice A2 ss.length c2] 26)).alloc (by first | omega | (simp; first | done | omega)) (.cells #[.int .i64 0, .int .i64 0, .slice none 0 0] 26)
  go_enter Try.func21, Try.ntmps21
  go_wp2_with (go_at_call 64; refine (s_l08Card_yes d f w.heap.size A A2 ss.length c c2 ss ts _ hS2 hT2 (by first | omega | (simp; first | done | omega)) hc1 hc2).mono ?_; rintro e w1 ⟨A1, c1, h1, ho1, hb1⟩; (rw [HZL.out] at h1 ho1); subst h1; obtain ⟨hcb1, hfb1⟩ := bcell hb1; have hz_w1_0 : w.heap.size < w1.heap.size := (by have hzz := hb1.size; (try simp at hzz); omega); have hy_w1_0 := Nat.le_of_lt hz_w1_0; have hz_w1_1 : w.heap.size + 1 < w1.heap.size := (by have hzz := hb1.size; (try simp at hzz); omega); have hy_w1_1 := Nat.le_of_lt hz_w1_1; have hz_w1_2 : w.heap.size + 1 + 1 < w1.heap.size := (by have hzz := hb1.size; (try simp at hzz); omega); have hy_w1_2 := Nat.le_of_lt hz_w1_2)
  refine bodyPost_ret (v := .tuple #[.agg #[.int .i64 d, .int .i64 f, .slice A1 ss.length c1], .bool true]) (by simp [results, Try.results21, go_sem, *]) rfl ?_
  exact ⟨A1, c1, rfl, own_up ho1 upr (by first | exact Nat.le_refl _ | (simp; done) | omega | (simp; omega) | exact (‹_ ∧ _ ∧ Below _ _ _›).2.2.size), bel⟩
end Go.Proofs.Ytccjedongkokoaa
