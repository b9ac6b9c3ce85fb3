/- The contracts of UpperCard, SymmetrizeCard of both packages. -/
import Derived.Test.YteffbjddgdjkmaaMix2
import Derived.Test.YteffbjddgdjkmaaCard5
import Derived.Test.YteffbjddgdjkmaaMem3
import Derived.Test.YteffbjddgdjkmaaFrame
import Derived.Deep.RegionHeld3
import Derived.Deep.RegionLaw
import Derived.Deep.DeepCutAuto
namespace Go.Proofs.Yteffbjddgdjkmaa
open Go.ChangeShapes Go.WideShapes Go.ChangeAt Go.RowKit
set_option linter.unusedVariables false
set_option linter.unusedSimpArgs false
set_option maxRecDepth 10000

def symRes (d f : Int) (ss : List ByteArray) : Int × Int × List ByteArray := if cardOk d f ss = true then (d, f, List.zipWith mixB ss ss.reverse) else (0, 0, [])
theorem symRes_ok (d f : Int) (ss : List ByteArray) (m : Nat) (h : OkS ss m) : OkS (symRes d f ss).2.2 m := by
  unfold symRes
  split
  · refine ⟨by show (List.zipWith mixB ss ss.reverse).length ≤ m; rw [zip_len _ _ List.length_reverse]; exact h.1, fun x hx => ?_⟩
    obtain ⟨a, ha, b, _, rfl⟩ := zip_mem _ _ _ hx
    exact mixB_size a b (h.2 a ha)
  · exact ⟨Nat.zero_le _, fun x hx => absurd hx (by simp)⟩
theorem cardOk_rev {d f : Int} {ss : List ByteArray} (h : cardOk d f ss = true) : cardOk d f ss.reverse = true := by
  unfold cardOk at h ⊢
  simpa [List.length_reverse, List.all_reverse] using h
/-- a card with a row of its own, as a call gives it -/
def CardN (N : Nat) (d f : Int) (xs : List Value) (w : World) (e : Ending) (w' : World) : Prop :=
  ∃ A c, e = .returned (.agg #[.int .i64 d, .int .i64 f, .slice A N c]) ∧ w'.ownsRow w.heap.size 9 1 (.slice A N c) N xs ∧ Below w.heap.size w w'
def CardNB (N : Nat) (d f : Int) (xs : List Value) (b : Bool) (w : World) (e : Ending) (w' : World) : Prop :=
  ∃ A c, e = .returned (.tuple #[.agg #[.int .i64 d, .int .i64 f, .slice A N c], .bool b]) ∧ w'.ownsRow w.heap.size 9 1 (.slice A N c) N xs ∧ Below w.heap.size w w'
theorem leafQ {wf w0 : World} {b g : Nat} {d f : Int} {N : Nat} {xs : List Value} {A : Option Addr} {c : Nat} {z0 z1 z2 : Value} (hk : wf.heap[g]? = some (.cells #[z0, z1, z2] 26 (0, 0))) (ho : wf.ownsRow b 9 1 (.slice A N c) N xs) (hb : Below b w0 wf) (hg : b ≤ g) :
    (((wf.setCell ⟨g, 0, none⟩ (.int .i64 d)).setCell ⟨g, 1, none⟩ (.int .i64 f)).setCell ⟨g, 2, none⟩ (.slice A N c)).heap[g]? = some (.cells #[.int .i64 d, .int .i64 f, .slice A N c] 26 (0, 0)) ∧ (((wf.setCell ⟨g, 0, none⟩ (.int .i64 d)).setCell ⟨g, 1, none⟩ (.int .i64 f)).setCell ⟨g, 2, none⟩ (.slice A N c)).ownsRow b 9 1 (.slice A N c) N xs ∧ b ≤ g ∧ Below b w0 (((wf.setCell ⟨g, 0, none⟩ (.int .i64 d)).setCell ⟨g, 1, none⟩ (.int .i64 f)).setCell ⟨g, 2, none⟩ (.slice A N c)) :=
  ⟨blk3_set hk _ _ _, own3_set ho hk (by decide) _ _ _, hg, bel⟩
theorem leafQN {wf w0 : World} {b g : Nat} {d f : Int} {N : Nat} {xs : List Value} {A : Option Addr} {c : Nat} (hb : Below b w0 wf) (ho : wf.ownsRow b 9 1 (.slice A N c) N xs) (hg : g = wf.heap.size) (hg2 : b ≤ g) :
    (wf.alloc (.cells #[.int .i64 d, .int .i64 f, .slice A N c] 26)).heap[g]? = some (.cells #[.int .i64 d, .int .i64 f, .slice A N c] 26 (0, 0)) ∧ (wf.alloc (.cells #[.int .i64 d, .int .i64 f, .slice A N c] 26)).ownsRow b 9 1 (.slice A N c) N xs ∧ b ≤ g ∧ Below b w0 (wf.alloc (.cells #[.int .i64 d, .int .i64 f, .slice A N c] 26)) := by
  subst hg
  exact ⟨blk_new_at _ _ rfl, ho.alloc _, hg2, bel⟩
theorem reads_strs {W : World} {base n c : Nat} {A : Option Addr} {ts : List ByteArray} (h : W.ownsRow base 9 1 (.slice A n c) n (ts.map Value.string)) (hl : ts.length = n) (hn : n ≤ 16777216) (hs : ∀ s ∈ ts, s.size ≤ 16777216) : Strs W W.heap.size A n ts := by
  subst hl; exact strs_of_own h hn hs
theorem reads_strs0 {W : World} {base c : Nat} {A : Option Addr} (h : W.ownsRow base 9 1 (.slice A 0 c) 0 ([] : List Value)) : Strs W W.heap.size A 0 [] := reads_strs (ts := []) h rfl (Nat.zero_le _) (fun x hx => absurd hx (by simp))
set_option maxHeartbeats 1600000 in
theorem i_UpperCard_yes (d f : Int) (A A2 : Option Addr) (c c2 : Nat) (ss ts : List ByteArray) (w : World) (hS : Strs w w.heap.size A ss.length ss) (hT : Strs w w.heap.size A2 ss.length ts) (hc1 : cardOk d f ss = true) (hc2 : cardOk d f ts = true) :
    Calls Try.prog 96 #[.agg #[.int .i64 d, .int .i64 f, .slice A ss.length c], .agg #[.int .i64 d, .int .i64 f, .slice A2 ss.length c2]] w (CardNB ss.length d f ((List.zipWith mixB ss ts).map Value.string) true w) := by
  have HZL := Lib.hid (zip_len ss ts hT.len)
  have hS2 := ((hS.alloc (Nat.le_refl _) (.cells #[.int .i64 d, .int .i64 f, .slice A ss.length c] 26)).alloc (by simp) (.cells #[.int .i64 d, .int .i64 f, .slice A2 ss.length c2] 26)).alloc (by first | omega | (simp; first | done | omega)) (.cells #[.int .i64 0, .int .i64 0, .slice none 0 0] 26)
  have hT2 := ((hT.alloc (Nat.le_refl _) (.cells #[.int .i64 d, .int .i64 f, .slice A ss.length c] 26)).alloc (by simp) (.cells #[.int .i64 d, .int .i64 f, .slice A2 ss.length c2] 26)).alloc (by first | omega | (simp; first | done | omega)) (.cells #[.int .i64 0, .int .i64 0, .slice none 0 0] 26)
  go_enter Try.func96, Try.ntmps96
  go_wp2_with (go_at_call 151; refine (i_joined_yes d f w.heap.size A A2 ss.length c c2 ss ts _ hS2 hT2 (by first | omega | (simp; first | done | omega)) hc1 hc2).mono ?_; rintro e w1 ⟨A1, c1, h1, ho1, hb1⟩; (rw [HZL.out] at h1 ho1); subst h1; obtain ⟨hcb1, hfb1⟩ := bcell hb1; have hz_w1_0 : w.heap.size < w1.heap.size := (by have hzz := hb1.size; (try simp at hzz); omega); have hy_w1_0 := Nat.le_of_lt hz_w1_0; have hz_w1_1 : w.heap.size + 1 < w1.heap.size := (by have hzz := hb1.size; (try simp at hzz); omega); have hy_w1_1 := Nat.le_of_lt hz_w1_1; have hz_w1_2 : w.heap.size + 1 + 1 < w1.heap.size := (by have hzz := hb1.size; (try simp at hzz); omega); have hy_w1_2 := Nat.le_of_lt hz_w1_2)
  refine bodyPost_ret (v := .tuple #[.agg #[.int .i64 d, .int .i64 f, .slice A1 ss.length c1], .bool true]) (by simp [results, Try.results96, go_sem, *]) rfl ?_
  exact ⟨A1, c1, rfl, own_up ho1 upr (by first | exact Nat.le_refl _ | (simp; done) | omega | (simp; omega) | exact (‹_ ∧ _ ∧ Below _ _ _›).2.2.size), bel⟩
set_option maxHeartbeats 1600000 in
theorem i_UpperCard_no (d f d2 f2 : Int) (A A2 : Option Addr) (c c2 : Nat) (ss : List ByteArray) (w : World) (hS : Strs w w.heap.size A ss.length ss) (hT : Strs w w.heap.size A2 0 []) (hc1 : cardOk d f ss = false) :
    Calls Try.prog 96 #[.agg #[.int .i64 d, .int .i64 f, .slice A ss.length c], .agg #[.int .i64 d2, .int .i64 f2, .slice A2 0 c2]] w (CardNB 0 0 0 [] false w) := by
  have hS2 := ((hS.alloc (Nat.le_refl _) (.cells #[.int .i64 d, .int .i64 f, .slice A ss.length c] 26)).alloc (by simp) (.cells #[.int .i64 d2, .int .i64 f2, .slice A2 0 c2] 26)).alloc (by first | omega | (simp; first | done | omega)) (.cells #[.int .i64 0, .int .i64 0, .slice none 0 0] 26)
  have hT2 := ((hT.alloc (Nat.le_refl _) (.cells #[.int .i64 d, .int .i64 f, .slice A ss.length c] 26)).alloc (by simp) (.cells #[.int .i64 d2, .int .i64 f2, .slice A2 0 c2] 26)).alloc (by first | omega | (simp; first | done | omega)) (.cells #[.int .i64 0, .int .i64 0, .slice none 0 0] 26)
  go_enter Try.func96, Try.ntmps96
  go_wp2_with (go_at_call 151; refine (i_joined_no d f d2 f2 w.heap.size A A2 ss.length c 0 c2 ss [] _ hS2 hT2 (by first | omega | (simp; first | done | omega)) hc1).mono ?_; rintro e w1 ⟨A1, c1, h1, ho1, hb1⟩; (simp only [List.length_nil, List.map_nil] at h1 ho1); subst h1; obtain ⟨hcb1, hfb1⟩ := bcell hb1; have hz_w1_0 : w.heap.size < w1.heap.size := (by have hzz := hb1.size; (try simp at hzz); omega); have hy_w1_0 := Nat.le_of_lt hz_w1_0; have hz_w1_1 : w.heap.size + 1 < w1.heap.size := (by have hzz := hb1.size; (try simp at hzz); omega); have hy_w1_1 := Nat.le_of_lt hz_w1_1; have hz_w1_2 : w.heap.size + 1 + 1 < w1.heap.size := (by have hzz := hb1.size; (try simp at hzz); omega); have hy_w1_2 := Nat.le_of_lt hz_w1_2)
  refine bodyPost_ret (v := .tuple #[.agg #[.int .i64 0, .int .i64 0, .slice A1 0 c1], .bool false]) (by simp [results, Try.results96, go_sem, *]) rfl ?_
  exact ⟨A1, c1, rfl, own_up ho1 upr (by first | exact Nat.le_refl _ | (simp; done) | omega | (simp; omega) | exact (‹_ ∧ _ ∧ Below _ _ _›).2.2.size), bel⟩
set_option maxHeartbeats 1600000 in
theorem s_UpperCard_yes (d f : Int) (A A2 : Option Addr) (c c2 : Nat) (ss ts : List ByteArray) (w : World) (hS : Strs w w.heap.size A ss.length ss) (hT : Strs w w.heap.size A2 ss.length ts) (hc1 : cardOk d f ss = true) (hc2 : cardOk d f ts = true) :
    Calls Try.prog 38 #[.agg #[.int .i64 d, .int .i64 f, .slice A ss.length c], .agg #[.int .i64 d, .int .i64 f, .slice A2 ss.length c2]] w (CardNB ss.length d f ((List.zipWith mixB ss ts).map Value.string) true w) := by
  have HZL := Lib.hid (zip_len ss ts hT.len)
  have hS2 := ((hS.alloc (Nat.le_refl _) (.cells #[.int .i64 d, .int .i64 f, .slice A ss.length c] 26)).alloc (by simp) (.cells #[.int .i64 d, .int .i64 f, .slice A2 ss.length c2] 26)).alloc (by first | omega | (simp; first | done | omega)) (.cells #[.int .i64 0, .int .i64 0, .slice none 0 0] 26)
  have hT2 := ((hT.alloc (Nat.le_refl _) (.cells #[.int .i64 d, .int .i64 f, .slice A ss.length c] 26)).alloc (by simp) (.cells #[.int .i64 d, .int .i64 f, .slice A2 ss.length c2] 26)).alloc (by first | omega | (simp; first | done | omega)) (.cells #[.int .i64 0, .int .i64 0, .slice none 0 0] 26)
  go_enter Try.func38, Try.ntmps38
  go_wp2_with (go_at_call 106; refine (s_l08Card_yes d f w.heap.size A A2 ss.length c c2 ss ts _ hS2 hT2 (by first | omega | (simp; first | done | omega)) hc1 hc2).mono ?_; rintro e w1 ⟨A1, c1, h1, ho1, hb1⟩; (rw [HZL.out] at h1 ho1); subst h1; obtain ⟨hcb1, hfb1⟩ := bcell hb1; have hz_w1_0 : w.heap.size < w1.heap.size := (by have hzz := hb1.size; (try simp at hzz); omega); have hy_w1_0 := Nat.le_of_lt hz_w1_0; have hz_w1_1 : w.heap.size + 1 < w1.heap.size := (by have hzz := hb1.size; (try simp at hzz); omega); have hy_w1_1 := Nat.le_of_lt hz_w1_1; have hz_w1_2 : w.heap.size + 1 + 1 < w1.heap.size := (by have hzz := hb1.size; (try simp at hzz); omega); have hy_w1_2 := Nat.le_of_lt hz_w1_2)
  refine bodyPost_ret (v := .tuple #[.agg #[.int .i64 d, .int .i64 f, .slice A1 ss.length c1], .bool true]) (by simp [results, Try.results38, go_sem, *]) rfl ?_
  exact ⟨A1, c1, rfl, own_up ho1 upr (by first | exact Nat.le_refl _ | (simp; done) | omega | (simp; omega) | exact (‹_ ∧ _ ∧ Below _ _ _›).2.2.size), bel⟩
set_option maxHeartbeats 1600000 in
theorem s_UpperCard_no (d f d2 f2 : Int) (A A2 : Option Addr) (c c2 : Nat) (ss : List ByteArray) (w : World) (hS : Strs w w.heap.size A ss.length ss) (hT : Strs w w.heap.size A2 0 []) (hc1 : cardOk d f ss = false) :
    Calls Try.prog 38 #[.agg #[.int .i64 d, .int .i64 f, .slice A ss.length c], .agg #[.int .i64 d2, .int .i64 f2, .slice A2 0 c2]] w (CardNB 0 0 0 [] false w) := by
  have hS2 := ((hS.alloc (Nat.le_refl _) (.cells #[.int .i64 d, .int .i64 f, .slice A ss.length c] 26)).alloc (by simp) (.cells #[.int .i64 d2, .int .i64 f2, .slice A2 0 c2] 26)).alloc (by first | omega | (simp; first | done | omega)) (.cells #[.int .i64 0, .int .i64 0, .slice none 0 0] 26)
  have hT2 := ((hT.alloc (Nat.le_refl _) (.cells #[.int .i64 d, .int .i64 f, .slice A ss.length c] 26)).alloc (by simp) (.cells #[.int .i64 d2, .int .i64 f2, .slice A2 0 c2] 26)).alloc (by first | omega | (simp; first | done | omega)) (.cells #[.int .i64 0, .int .i64 0, .slice none 0 0] 26)
  go_enter Try.func38, Try.ntmps38
  go_wp2_with (go_at_call 106; refine (s_l08Card_no d f d2 f2 w.heap.size A A2 ss.length c 0 c2 ss [] _ hS2 hT2 (by first | omega | (simp; first | done | omega)) hc1).mono ?_; rintro e w1 ⟨A1, c1, h1, ho1, hb1⟩; (simp only [List.length_nil, List.map_nil] at h1 ho1); subst h1; obtain ⟨hcb1, hfb1⟩ := bcell hb1; have hz_w1_0 : w.heap.size < w1.heap.size := (by have hzz := hb1.size; (try simp at hzz); omega); have hy_w1_0 := Nat.le_of_lt hz_w1_0; have hz_w1_1 : w.heap.size + 1 < w1.heap.size := (by have hzz := hb1.size; (try simp at hzz); omega); have hy_w1_1 := Nat.le_of_lt hz_w1_1; have hz_w1_2 : w.heap.size + 1 + 1 < w1.heap.size := (by have hzz := hb1.size; (try simp at hzz); omega); have hy_w1_2 := Nat.le_of_lt hz_w1_2)
  refine bodyPost_ret (v := .tuple #[.agg #[.int .i64 0, .int .i64 0, .slice A1 0 c1], .bool false]) (by simp [results, Try.results38, go_sem, *]) rfl ?_
  exact ⟨A1, c1, rfl, own_up ho1 upr (by first | exact Nat.le_refl _ | (simp; done) | omega | (simp; omega) | exact (‹_ ∧ _ ∧ Below _ _ _›).2.2.size), bel⟩
set_option maxHeartbeats 3200000 in
theorem i_SymmetrizeCard (d f : Int) (A : Option Addr) (c : Nat) (ss : List ByteArray) (w : World) (hS : Strs w w.heap.size A ss.length ss) :
    Calls Try.prog 27 #[.agg #[.int .i64 d, .int .i64 f, .slice A ss.length c]] w fun e w' => ∃ A' c', e = .returned (.agg #[.int .i64 (symRes d f ss).1, .int .i64 (symRes d f ss).2.1, .slice A' (symRes d f ss).2.2.length c']) ∧ OwnS w' w.heap.size w'.heap.size A' c' (symRes d f ss).2.2 ∧ Below w.heap.size w w' := by
  have hn := hS.nb
  have hsb := hS.sb
  obtain ⟨w1, hw1⟩ : ∃ W, W = (w.alloc (.cells #[.int .i64 d, .int .i64 f, .slice A ss.length c] 26)).alloc (.cells #[.int .i64 0, .int .i64 0, .slice none 0 0] 26) := ⟨_, rfl⟩
  have hbw1 : Below w.heap.size w w1 := by rw [hw1]; exact bel
  have hS1 : Strs w1 w.heap.size A ss.length ss := hS.below hbw1
  have hz1 : w.heap.size + 2 ≤ w1.heap.size := by rw [hw1]; simp
  have hka : w1.heap[w.heap.size]? = some (.cells #[.int .i64 d, .int .i64 f, .slice A ss.length c] 26 (0, 0)) := by rw [hw1]; exact blk_alloc (blk_new _ _) _
  have hkb : w1.heap[w.heap.size + 1]? = some (.cells #[.int .i64 0, .int .i64 0, .slice none 0 0] 26 (0, 0)) := by rw [hw1]; exact blk_new_at _ _ (by simp)
  have hzx0 : w.heap.size < w1.heap.size := by omega
  have hzx1 : w.heap.size + 1 < w1.heap.size := by omega
  cases hc1 : cardOk d f ss
  · have HC1 := Lib.hid hc1
    have HR : Hid (symRes d f ss = (0, 0, ([] : List ByteArray))) := by unfold Hid symRes; rw [hc1]; rfl
    have hmr : mirrorRes d f ss = (0, 0, []) := by unfold mirrorRes; rw [hc1]; rfl
    have hmir : ∀ W : World, Strs W w.heap.size A ss.length ss → w.heap.size ≤ W.heap.size → Calls Try.prog 26 #[.agg #[.int .i64 d, .int .i64 f, .slice A ss.length c]] W (CardN 0 0 0 ([] : List Value) W) := by
      intro W h hB
      refine (i_MirrorCard d f w.heap.size A ss.length c ss W h hB).mono ?_
      rw [hmr]
      rintro e w2 ⟨A2, c2, h1, h2, h3⟩
      simp only [List.length_reverse, List.length_nil, List.map_nil] at h1 h2
      exact ⟨A2, c2, h1, h2, h3⟩
    have HMIR := hide hmir
    clear hmir hmr hc1 hsb
    rw [HR.out]
    dsimp only
    go_enter Try.func27, Try.ntmps27
    go_upto_region 1 with fail
    rw [← hw1]
    clear hw1
    obtain ⟨ha0, ha1, ha2, hal⟩ := blk3 hka
    go_cut [3] (fun s3 wx => ∃ (g : Nat) (A9 : Option Addr) (c9 : Nat), s3 = .pointer (some ⟨g, 0, none⟩) ∧ wx.heap[g]? = some (.cells #[.int .i64 0, .int .i64 0, .slice A9 0 c9] 26 (0, 0)) ∧ wx.ownsRow w1.heap.size 9 1 (.slice A9 0 c9) 0 ([] : List Value) ∧ w1.heap.size ≤ g ∧ Below w1.heap.size w1 wx)
    case first =>
      go_region_held3 (fun W => (∀ b o, b < w1.heap.size → W.cell? ⟨b, o, none⟩ = (w1).cell? ⟨b, o, none⟩) ∧ (∀ b o, b < w1.heap.size → W.frozen? ⟨b, o, none⟩ = (w1).frozen? ⟨b, o, none⟩) ∧ Below (w1.heap.size) (w1) W) (exact keep_of bel) (first | (go_at_call 26; have hq := (‹_ ∧ _ ∧ Below _ _ _›).2.2; refine (unhide HMIR _ ?_ ?_).mono ?_; exact hS1.below (hq.mono (by omega)); (first | exact Nat.le_trans (by omega) hq.size | omega); rintro e w2 ⟨A2, c2, rfl, ho2, hb2⟩; have hqs2 := hq.size; have hbs2 := hb2.size; (try simp at hqs2); (try simp at hbs2); (have ho2 := own_wideb (b := w1.heap.size) ho2 (by first | exact hq.size | omega)); obtain ⟨hcb2, hfb2⟩ := bcell hb2; (try (have hzl0 : w1.heap.size < w2.heap.size := (by omega)))) | (go_at_call 96; have hq := (‹_ ∧ _ ∧ Below _ _ _›).2.2; refine (i_UpperCard_no d f 0 0 A A2 c c2 ss _ ?_ ?_ HC1.out).mono ?_; exact (hS1.below (hq.mono (by omega))).more (by first | exact Nat.le_trans (by omega) hq.size | omega); (refine reads_strs0 (base := w1.heap.size) (c := c2) ?_; (focus ((repeat (first | (with_reducible exact ho2) | (with_reducible refine World.ownsRow.drew ?_) | (with_reducible refine World.ownsRow.alloc ?_ _))); (first | done | fail)))); rintro e w3 ⟨A3, c3, rfl, ho3, hb3⟩; have hqs3 := hq.size; have hbs3 := hb3.size; (try simp at hqs3); (try simp at hbs3); (have ho3 := own_wideb (b := w1.heap.size) ho3 (by first | exact hq.size | omega)); obtain ⟨hcb3, hfb3⟩ := bcell hb3; (try (have hzl1 : w1.heap.size < w3.heap.size := (by omega))); (try (have hzl2 : w2.heap.size < w3.heap.size := (by omega)))))
      all_goals (go_wp2_with fail)
      all_goals (go_meet)
      all_goals (
        refine ⟨_, A3, c3, rfl, ?_⟩
        first
          | ((with_reducible refine leafQN ?_ ?_ ?_ ?_); (first | exact bel); (focus ((repeat (first | (with_reducible exact ho3) | (with_reducible refine World.ownsRow.drew ?_) | (with_reducible refine World.ownsRow.alloc ?_ _))); (first | done | fail))); (first | rfl | (simp; first | done | fail)); (first | omega | (simp; first | done | omega)))
          | ((with_reducible apply leafQ); (case hk => (focus ((repeat (first | (with_reducible exact blk_new_at _ _ (by first | rfl | (simp; first | done | fail))) | (with_reducible refine blk_next ?_ hb3) | (with_reducible refine blk_next ?_ hb2) | (with_reducible refine blk_drew ?_) | (with_reducible refine blk_alloc ?_ _))); (first | done | fail)))); (case ho => (focus ((repeat (first | (with_reducible exact ho3) | (with_reducible refine World.ownsRow.drew ?_) | (with_reducible refine World.ownsRow.alloc ?_ _))); (first | done | fail)))); (case hb => exact bel); (case hg => first | omega | (simp; first | done | omega))))
    obtain ⟨g9, A9, c9, rfl, hk9, ho9, hg9, hb9⟩ := hcut
    obtain ⟨w5, hwc⟩ : ∃ W, W = wc := ⟨_, rfl⟩
    subst hwc
    have hs9 := hb9.size
    obtain ⟨hy0, hy1, hy2, hyl⟩ := blk3 hk9
    have hkb9 := blk_below hkb hb9 (by omega)
    obtain ⟨hu0, hu1, hu2, hul⟩ := blk3 hkb9
    have hv0 := (blk_cells hkb9 0).2
    have hv1 := (blk_cells hkb9 1).2
    have hv2 := (blk_cells hkb9 2).2
    have hbw5 : Below w.heap.size w w5 := hbw1.trans (hb9.mono (by omega))
    go_wp2
    refine bodyPost_ret (v := .agg #[.int .i64 0, .int .i64 0, .slice A9 0 c9]) (by simp [results, Try.results27, go_sem, *]) rfl ?_
    refine ⟨A9, c9, rfl, OwnS.of (lo := w.heap.size) ?_ (Nat.le_refl _), bel⟩
    exact own_up ho9 upr (show w.heap.size ≤ w1.heap.size by omega)
  · have HC1 := Lib.hid hc1
    have HR : Hid (symRes d f ss = (d, f, (List.zipWith mixB ss ss.reverse))) := by unfold Hid symRes; rw [hc1]; rfl
    have hmr : mirrorRes d f ss = (d, f, ss.reverse) := by unfold mirrorRes; rw [hc1]; rfl
    have hmir : ∀ W : World, Strs W w.heap.size A ss.length ss → w.heap.size ≤ W.heap.size → Calls Try.prog 26 #[.agg #[.int .i64 d, .int .i64 f, .slice A ss.length c]] W (CardN ss.length d f (ss.reverse.map Value.string) W) := by
      intro W h hB
      refine (i_MirrorCard d f w.heap.size A ss.length c ss W h hB).mono ?_
      rw [hmr]
      rintro e w2 ⟨A2, c2, h1, h2, h3⟩
      simp only [List.length_reverse, List.length_nil, List.map_nil] at h1 h2
      exact ⟨A2, c2, h1, h2, h3⟩
    have HC2 := Lib.hid (cardOk_rev hc1)
    have HSBR : Hid (∀ x ∈ ss.reverse, x.size ≤ 16777216) := fun x hx => hsb x (List.mem_reverse.1 hx)
    have HZL := Lib.hid (zip_len ss ss.reverse List.length_reverse)
    have HMIR := hide hmir
    clear hmir hmr hc1 hsb
    rw [HR.out]
    dsimp only
    go_enter Try.func27, Try.ntmps27
    go_upto_region 1 with fail
    rw [← hw1]
    clear hw1
    obtain ⟨ha0, ha1, ha2, hal⟩ := blk3 hka
    go_cut [3] (fun s3 wx => ∃ (g : Nat) (A9 : Option Addr) (c9 : Nat), s3 = .pointer (some ⟨g, 0, none⟩) ∧ wx.heap[g]? = some (.cells #[.int .i64 d, .int .i64 f, .slice A9 ss.length c9] 26 (0, 0)) ∧ wx.ownsRow w1.heap.size 9 1 (.slice A9 ss.length c9) ss.length ((List.zipWith mixB ss ss.reverse).map Value.string) ∧ w1.heap.size ≤ g ∧ Below w1.heap.size w1 wx)
    case first =>
      go_region_held3 (fun W => (∀ b o, b < w1.heap.size → W.cell? ⟨b, o, none⟩ = (w1).cell? ⟨b, o, none⟩) ∧ (∀ b o, b < w1.heap.size → W.frozen? ⟨b, o, none⟩ = (w1).frozen? ⟨b, o, none⟩) ∧ Below (w1.heap.size) (w1) W) (exact keep_of bel) (first | (go_at_call 26; have hq := (‹_ ∧ _ ∧ Below _ _ _›).2.2; refine (unhide HMIR _ ?_ ?_).mono ?_; exact hS1.below (hq.mono (by omega)); (first | exact Nat.le_trans (by omega) hq.size | omega); rintro e w2 ⟨A2, c2, rfl, ho2, hb2⟩; have hqs2 := hq.size; have hbs2 := hb2.size; (try simp at hqs2); (try simp at hbs2); (have ho2 := own_wideb (b := w1.heap.size) ho2 (by first | exact hq.size | omega)); obtain ⟨hcb2, hfb2⟩ := bcell hb2; (try (have hzl0 : w1.heap.size < w2.heap.size := (by omega)))) | (go_at_call 96; have hq := (‹_ ∧ _ ∧ Below _ _ _›).2.2; refine (i_UpperCard_yes d f A A2 c c2 ss ss.reverse _ ?_ ?_ HC1.out HC2.out).mono ?_; exact (hS1.below (hq.mono (by omega))).more (by first | exact Nat.le_trans (by omega) hq.size | omega); (refine reads_strs (base := w1.heap.size) (c := c2) ?_ List.length_reverse hn HSBR.out; (focus ((repeat (first | (with_reducible exact ho2) | (with_reducible refine World.ownsRow.drew ?_) | (with_reducible refine World.ownsRow.alloc ?_ _))); (first | done | fail)))); rintro e w3 ⟨A3, c3, rfl, ho3, hb3⟩; have hqs3 := hq.size; have hbs3 := hb3.size; (try simp at hqs3); (try simp at hbs3); (have ho3 := own_wideb (b := w1.heap.size) ho3 (by first | exact hq.size | omega)); obtain ⟨hcb3, hfb3⟩ := bcell hb3; (try (have hzl1 : w1.heap.size < w3.heap.size := (by omega))); (try (have hzl2 : w2.heap.size < w3.heap.size := (by omega)))))
      all_goals (go_wp2_with fail)
      all_goals (go_meet)
      all_goals (
        refine ⟨_, A3, c3, rfl, ?_⟩
        first
          | ((with_reducible refine leafQN ?_ ?_ ?_ ?_); (first | exact bel); (focus ((repeat (first | (with_reducible exact ho3) | (with_reducible refine World.ownsRow.drew ?_) | (with_reducible refine World.ownsRow.alloc ?_ _))); (first | done | fail))); (first | rfl | (simp; first | done | fail)); (first | omega | (simp; first | done | omega)))
          | ((with_reducible apply leafQ); (case hk => (focus ((repeat (first | (with_reducible exact blk_new_at _ _ (by first | rfl | (simp; first | done | fail))) | (with_reducible refine blk_next ?_ hb3) | (with_reducible refine blk_next ?_ hb2) | (with_reducible refine blk_drew ?_) | (with_reducible refine blk_alloc ?_ _))); (first | done | fail)))); (case ho => (focus ((repeat (first | (with_reducible exact ho3) | (with_reducible refine World.ownsRow.drew ?_) | (with_reducible refine World.ownsRow.alloc ?_ _))); (first | done | fail)))); (case hb => exact bel); (case hg => first | omega | (simp; first | done | omega))))
    obtain ⟨g9, A9, c9, rfl, hk9, ho9, hg9, hb9⟩ := hcut
    obtain ⟨w5, hwc⟩ : ∃ W, W = wc := ⟨_, rfl⟩
    subst hwc
    have hs9 := hb9.size
    obtain ⟨hy0, hy1, hy2, hyl⟩ := blk3 hk9
    have hkb9 := blk_below hkb hb9 (by omega)
    obtain ⟨hu0, hu1, hu2, hul⟩ := blk3 hkb9
    have hv0 := (blk_cells hkb9 0).2
    have hv1 := (blk_cells hkb9 1).2
    have hv2 := (blk_cells hkb9 2).2
    have hbw5 : Below w.heap.size w w5 := hbw1.trans (hb9.mono (by omega))
    go_wp2
    refine bodyPost_ret (v := .agg #[.int .i64 d, .int .i64 f, .slice A9 ss.length c9]) (by simp [results, Try.results27, go_sem, *]) rfl ?_
    refine ⟨A9, c9, by rw [HZL.out], OwnS.of (lo := w.heap.size) ?_ (Nat.le_refl _), bel⟩
    rw [HZL.out]; exact own_up ho9 upr (show w.heap.size ≤ w1.heap.size by omega)
end Go.Proofs.Yteffbjddgdjkmaa
