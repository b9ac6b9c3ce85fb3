/- FnExactOpenCopy: the contracts behind it, part 2. -/
import Derived.Deep.DeepCutAuto
import Derived.Deep.RegionHeld3
import Derived.Deep.Slices
import Derived.Lib.SmallJoins
import Derived.SliceStrings
import Derived.Test.YtdddglihomchfaaRows
import Derived.Test.YtdddglihomchfaaQOpenCopya
namespace Go.Proofs.Ytdddglihomchfaa
open Go.ChangeShapes Go.WideShapes Go.ChangeAt Go.RowKit
set_option linter.unusedVariables false
set_option linter.unusedSimpArgs false
set_option maxRecDepth 10000
def openRes (d f : Int) (ss : List ByteArray) (K W H O t : Int) : Int × Bool := if copyOk d f ss K W H O && inB t 0 (leftOf d f ss K W H O) then (O + t, true) else (O, false)
theorem openRes_no1 {d f : Int} {ss : List ByteArray} {K W H O t : Int} (h : copyOk d f ss K W H O = false) : openRes d f ss K W H O t = (O, false) := by unfold openRes; rw [h]; rfl
theorem openRes_no2 {d f : Int} {ss : List ByteArray} {K W H O t : Int} (h : inB t 0 (leftOf d f ss K W H O) = false) : openRes d f ss K W H O t = (O, false) := by unfold openRes; rw [h, Bool.and_false]; rfl
theorem openRes_yes {d f : Int} {ss : List ByteArray} {K W H O t : Int} (h : copyOk d f ss K W H O = true) (h2 : inB t 0 (leftOf d f ss K W H O) = true) : openRes d f ss K W H O t = (O + t, true) := by unfold openRes; rw [h, h2]; rfl
theorem leftOf_bd (d f : Int) (ss : List ByteArray) (K W H O : Int) : leftOf d f ss K W H O ≤ 40000 := by
  cases h : copyOk d f ss K W H O
  · rw [leftOf_no h]; omega
  · have h1 := life_bd K W H (mostF ss ss.length)
    have h2 := copyOk_O h
    rw [← lifeOf_yes h] at h1
    rw [leftOf_yes h]; omega
theorem blk7f {w : World} {g : Nat} {t : TypeId} {a0 a1 a2 a3 a4 a5 a6 : Value} (h : w.heap[g]? = some (.cells #[a0, a1, a2, a3, a4, a5, a6] t (0, 0))) :
    (w.frozen? ⟨g, 0, none⟩ = false ∧ w.frozen? ⟨g, 1, none⟩ = false ∧ w.frozen? ⟨g, 2, none⟩ = false ∧ w.frozen? ⟨g, 3, none⟩ = false) ∧ (w.frozen? ⟨g, 4, none⟩ = false ∧ w.frozen? ⟨g, 5, none⟩ = false ∧ w.frozen? ⟨g, 6, none⟩ = false) :=
  ⟨⟨(blk_cells h 0).2, (blk_cells h 1).2, (blk_cells h 2).2, (blk_cells h 3).2⟩, (blk_cells h 4).2, (blk_cells h 5).2, (blk_cells h 6).2⟩
theorem leafC {wf w0 : World} {b g : Nat} {d f K W H O : Int} {ss : List ByteArray} {A : Option Addr} {c : Nat} {z0 z1 z2 z3 z4 z5 z6 : Value} (hk : wf.heap[g]? = some (.cells #[z0, z1, z2, z3, z4, z5, z6] 33 (0, 0))) (ho : OwnS wf b wf.heap.size A c ss) (hb : Below b w0 wf) (hg : b ≤ g) :
    (((((((wf.setCell ⟨g, 0, none⟩ (.int .i64 d)).setCell ⟨g, 1, none⟩ (.int .i64 f)).setCell ⟨g, 2, none⟩ (.slice A ss.length c)).setCell ⟨g, 3, none⟩ (.int .i64 K)).setCell ⟨g, 4, none⟩ (.int .i64 W)).setCell ⟨g, 5, none⟩ (.int .i64 H)).setCell ⟨g, 6, none⟩ (.int .i64 O)).heap[g]? = some (.cells #[.int .i64 d, .int .i64 f, .slice A ss.length c, .int .i64 K, .int .i64 W, .int .i64 H, .int .i64 O] 33 (0, 0)) ∧ OwnS (((((((wf.setCell ⟨g, 0, none⟩ (.int .i64 d)).setCell ⟨g, 1, none⟩ (.int .i64 f)).setCell ⟨g, 2, none⟩ (.slice A ss.length c)).setCell ⟨g, 3, none⟩ (.int .i64 K)).setCell ⟨g, 4, none⟩ (.int .i64 W)).setCell ⟨g, 5, none⟩ (.int .i64 H)).setCell ⟨g, 6, none⟩ (.int .i64 O)) b (((((((wf.setCell ⟨g, 0, none⟩ (.int .i64 d)).setCell ⟨g, 1, none⟩ (.int .i64 f)).setCell ⟨g, 2, none⟩ (.slice A ss.length c)).setCell ⟨g, 3, none⟩ (.int .i64 K)).setCell ⟨g, 4, none⟩ (.int .i64 W)).setCell ⟨g, 5, none⟩ (.int .i64 H)).setCell ⟨g, 6, none⟩ (.int .i64 O)).heap.size A c ss ∧ b ≤ g ∧ Below b w0 (((((((wf.setCell ⟨g, 0, none⟩ (.int .i64 d)).setCell ⟨g, 1, none⟩ (.int .i64 f)).setCell ⟨g, 2, none⟩ (.slice A ss.length c)).setCell ⟨g, 3, none⟩ (.int .i64 K)).setCell ⟨g, 4, none⟩ (.int .i64 W)).setCell ⟨g, 5, none⟩ (.int .i64 H)).setCell ⟨g, 6, none⟩ (.int .i64 O)) := by
  refine ⟨blk7_set hk _ _ _ _ _ _ _, ?_, hg, ?_⟩
  · exact (ho.box hk (by decide) (by repeat (first | (with_reducible exact World.grownBy.refl _ _) | (with_reducible refine only_setCell ?_ (.inl rfl) _)))).wide (Nat.le_refl _) (by simp [World.setCell])
  · exact bel
theorem leafCN {wf w0 : World} {b g : Nat} {d f K W H O : Int} {ss : List ByteArray} {A : Option Addr} {c : Nat} (hb : Below b w0 wf) (ho : OwnS wf b wf.heap.size A c ss) (hg : g = wf.heap.size) (hg2 : b ≤ g) :
    (wf.alloc (.cells #[.int .i64 d, .int .i64 f, .slice A ss.length c, .int .i64 K, .int .i64 W, .int .i64 H, .int .i64 O] 33)).heap[g]? = some (.cells #[.int .i64 d, .int .i64 f, .slice A ss.length c, .int .i64 K, .int .i64 W, .int .i64 H, .int .i64 O] 33 (0, 0)) ∧ OwnS (wf.alloc (.cells #[.int .i64 d, .int .i64 f, .slice A ss.length c, .int .i64 K, .int .i64 W, .int .i64 H, .int .i64 O] 33)) b (wf.alloc (.cells #[.int .i64 d, .int .i64 f, .slice A ss.length c, .int .i64 K, .int .i64 W, .int .i64 H, .int .i64 O] 33)).heap.size A c ss ∧ b ≤ g ∧ Below b w0 (wf.alloc (.cells #[.int .i64 d, .int .i64 f, .slice A ss.length c, .int .i64 K, .int .i64 W, .int .i64 H, .int .i64 O] 33)) := by
  subst hg
  exact ⟨blk_new_at _ _ rfl, (ho.alloc _).wide (Nat.le_refl _) (by simp), hg2, bel⟩
set_option maxHeartbeats 3200000 in
theorem i_OpenCopy (d f : Int) (A : Option Addr) (c : Nat) (ss : List ByteArray) (K W H O t : Int) (w : World) (hS : Strs w w.heap.size A ss.length ss) :
    Calls Try.prog 9 #[.agg #[.int .i64 d, .int .i64 f, .slice A ss.length c, .int .i64 K, .int .i64 W, .int .i64 H, .int .i64 O], .int .i64 t] w fun e w' => ∃ A' c', e = .returned (.tuple #[.agg #[.int .i64 d, .int .i64 f, .slice A' ss.length c', .int .i64 K, .int .i64 W, .int .i64 H, .int .i64 (openRes d f ss K W H O t).1], .bool (openRes d f ss K W H O t).2]) ∧ OwnS w' w.heap.size w'.heap.size A' c' ss ∧ Below w.heap.size w w' := by
  have hn := hS.nb
  obtain ⟨w1, hw1⟩ : ∃ Q9 : World, Q9 = (w.alloc (.cells #[.int .i64 d, .int .i64 f, .slice A ss.length c, .int .i64 K, .int .i64 W, .int .i64 H, .int .i64 O] 33)).alloc (.cells #[.int .i64 0, .int .i64 0, .slice none 0 0, .int .i64 0, .int .i64 0, .int .i64 0, .int .i64 0] 33) := ⟨_, rfl⟩
  have hbw1 : Below w.heap.size w w1 := by rw [hw1]; exact bel
  have hS1 : Strs w1 w.heap.size A ss.length ss := hS.below hbw1
  have hz1 : w.heap.size + 2 ≤ w1.heap.size := by rw [hw1]; simp
  have hka : w1.heap[w.heap.size]? = some (.cells #[.int .i64 d, .int .i64 f, .slice A ss.length c, .int .i64 K, .int .i64 W, .int .i64 H, .int .i64 O] 33 (0, 0)) := by rw [hw1]; exact blk_alloc (blk_new _ _) _
  have hkb : w1.heap[w.heap.size + 1]? = some (.cells #[.int .i64 0, .int .i64 0, .slice none 0 0, .int .i64 0, .int .i64 0, .int .i64 0, .int .i64 0] 33 (0, 0)) := by rw [hw1]; exact blk_new_at _ _ (by simp)
  have hzx0 : w.heap.size < w1.heap.size := by omega
  have hzx1 : w.heap.size + 1 < w1.heap.size := by omega
  cases hc : copyOk d f ss K W H O
  · have HR := Lib.hid (openRes_no1 (t := t) hc)
    have HC := Lib.hid hc
    clear hc
    go_enter Try.func9, Try.ntmps9
    go_upto_region 1 with fail
    rw [← hw1]
    clear hw1
    obtain ⟨ha0, ha1, ha2, ha3, ha4, ha5, ha6, hal⟩ := blk7 hka
    go_cut [6] (fun s6 wx => ∃ (g : Nat) (A9 : Option Addr) (c9 : Nat), s6 = .pointer (some ⟨g, 0, none⟩) ∧ wx.heap[g]? = some (.cells #[.int .i64 d, .int .i64 f, .slice A9 ss.length c9, .int .i64 K, .int .i64 W, .int .i64 H, .int .i64 O] 33 (0, 0)) ∧ OwnS wx w1.heap.size wx.heap.size A9 c9 ss ∧ w1.heap.size ≤ g ∧ Below w1.heap.size w1 wx)
    case first =>
      go_region_held3 (fun W => (∀ b o, b < w1.heap.size → W.cell? ⟨b, o, none⟩ = (w1).cell? ⟨b, o, none⟩) ∧ (∀ b o, b < w1.heap.size → W.frozen? ⟨b, o, none⟩ = (w1).frozen? ⟨b, o, none⟩) ∧ Below (w1.heap.size) (w1) W) (exact keep_of bel) (first | (go_at_call 39; have hq := (‹_ ∧ _ ∧ Below _ _ _›).2.2; refine (i_copied d f w.heap.size A ss.length c ss _ ?_ ?_).mono ?_; exact hS1.below (hq.mono (by omega)); (first | exact Nat.le_trans (by omega) hq.size | omega); rintro e w3 ⟨A3, c3, rfl, ho3, hb3⟩; have hqs3 := hq.size; have hbs3 := hb3.size; (try simp at hqs3); (try simp at hbs3); (have hos : OwnS w3 w1.heap.size w3.heap.size A3 c3 ss := (OwnS.of ho3 (Nat.le_refl _)).wide (by first | exact hq.size | omega) (Nat.le_refl _)); obtain ⟨hcb3, hfb3⟩ := bcell hb3; (try (have hzl1 : w1.heap.size < w3.heap.size := (by omega)))))
      all_goals (go_wp2_with fail)
      all_goals (go_meet)
      all_goals (
        refine ⟨_, A3, c3, rfl, ?_⟩
        first
          | ((with_reducible refine leafCN ?_ ?_ ?_ ?_); (first | exact bel); (focus ((repeat (first | (with_reducible exact hos) | (with_reducible refine OwnS.drew ?_) | (with_reducible refine OwnS.alloc ?_ _))); (first | done | fail))); (first | rfl | (simp; first | done | fail)); (first | omega | (simp; first | done | omega)))
          | ((with_reducible apply leafC); (case hk => (focus ((repeat (first | (with_reducible exact blk_new_at _ _ (by first | rfl | (simp; first | done | fail))) | (with_reducible refine blk_next ?_ hb3) | (with_reducible refine blk_drew ?_) | (with_reducible refine blk_alloc ?_ _))); (first | done | fail)))); (case ho => (focus ((repeat (first | (with_reducible exact hos) | (with_reducible refine OwnS.drew ?_) | (with_reducible refine OwnS.alloc ?_ _))); (first | done | fail)))); (case hb => exact bel); (case hg => first | omega | (simp; first | done | omega))))
    obtain ⟨g9, A9, c9, rfl, hk9, ho9, hg9, hb9⟩ := hcut
    obtain ⟨w5, hwc⟩ : ∃ Q9 : World, Q9 = wc := ⟨_, rfl⟩
    subst hwc
    clear ha0 ha1 ha2 ha3 ha4 ha5 ha6 hal
    have hs9 := hb9.size
    have hka5 := blk_below hka hb9 (by omega)
    have hkb5 := blk_below hkb hb9 (by omega)
    have hbw5 : Below w.heap.size w w5 := hbw1.trans (hb9.mono (by omega))
    obtain ⟨hx0, hx1, hx2, hx3, hx4, hx5, hx6, hxl⟩ := blk7 hka5
    go_wp2_with (first | (go_at_call 31; refine (i_CopyOk d f w.heap.size A ss.length c ss K W H O _ (hS.below hbw5) hbw5.size).mono ?_; rw [HC.out]; rintro e w6 ⟨rfl, hb6⟩; (have hbw6 : Below w.heap.size w w6 := hbw5.trans (hb6.mono hbw5.size)); (have hka6 := blk_next hka5 hb6); (have hkb6 := blk_next hkb5 hb6); (have hk96 := blk_next hk9 hb6); (have ho6 := ho9.below hb6); clear hx0 hx1 hx2 hx3 hx4 hx5 hx6 hxl; obtain ⟨hx0, hx1, hx2, hx3, hx4, hx5, hx6, hxl⟩ := blk7 hka6; obtain ⟨hy0, hy1, hy2, hy3, hy4, hy5, hy6, hyl⟩ := blk7 hk96; obtain ⟨⟨hv0, hv1, hv2, hv3⟩, hv4, hv5, hv6⟩ := blk7f hkb6; obtain ⟨hr0, hr1, hr2, hr3, hr4, hr5, hr6, hrl⟩ := blk7 hkb6))
    refine bodyPost_ret (v := .tuple #[.agg #[.int .i64 d, .int .i64 f, .slice A9 ss.length c9, .int .i64 K, .int .i64 W, .int .i64 H, .int .i64 O], .bool false]) (by simp [results, Try.results9, go_sem, *]) rfl ?_
    rw [HR.out]
    exact ⟨A9, c9, rfl, OwnS.of (own_up ho6.row upr (show w.heap.size ≤ w1.heap.size by omega)) (Nat.le_refl _), bel⟩
  · cases hi : inB t 0 (leftOf d f ss K W H O)
    · have HR := Lib.hid (openRes_no2 hi)
      have HC := Lib.hid hc
      have HI := Lib.hid hi
      clear hc hi
      go_enter Try.func9, Try.ntmps9
      go_upto_region 1 with fail
      rw [← hw1]
      clear hw1
      obtain ⟨ha0, ha1, ha2, ha3, ha4, ha5, ha6, hal⟩ := blk7 hka
      go_cut [6] (fun s6 wx => ∃ (g : Nat) (A9 : Option Addr) (c9 : Nat), s6 = .pointer (some ⟨g, 0, none⟩) ∧ wx.heap[g]? = some (.cells #[.int .i64 d, .int .i64 f, .slice A9 ss.length c9, .int .i64 K, .int .i64 W, .int .i64 H, .int .i64 O] 33 (0, 0)) ∧ OwnS wx w1.heap.size wx.heap.size A9 c9 ss ∧ w1.heap.size ≤ g ∧ Below w1.heap.size w1 wx)
      case first =>
        go_region_held3 (fun W => (∀ b o, b < w1.heap.size → W.cell? ⟨b, o, none⟩ = (w1).cell? ⟨b, o, none⟩) ∧ (∀ b o, b < w1.heap.size → W.frozen? ⟨b, o, none⟩ = (w1).frozen? ⟨b, o, none⟩) ∧ Below (w1.heap.size) (w1) W) (exact keep_of bel) (first | (go_at_call 39; have hq := (‹_ ∧ _ ∧ Below _ _ _›).2.2; refine (i_copied d f w.heap.size A ss.length c ss _ ?_ ?_).mono ?_; exact hS1.below (hq.mono (by omega)); (first | exact Nat.le_trans (by omega) hq.size | omega); rintro e w3 ⟨A3, c3, rfl, ho3, hb3⟩; have hqs3 := hq.size; have hbs3 := hb3.size; (try simp at hqs3); (try simp at hbs3); (have hos : OwnS w3 w1.heap.size w3.heap.size A3 c3 ss := (OwnS.of ho3 (Nat.le_refl _)).wide (by first | exact hq.size | omega) (Nat.le_refl _)); obtain ⟨hcb3, hfb3⟩ := bcell hb3; (try (have hzl1 : w1.heap.size < w3.heap.size := (by omega)))))
        all_goals (go_wp2_with fail)
        all_goals (go_meet)
        all_goals (
          refine ⟨_, A3, c3, rfl, ?_⟩
          first
            | ((with_reducible refine leafCN ?_ ?_ ?_ ?_); (first | exact bel); (focus ((repeat (first | (with_reducible exact hos) | (with_reducible refine OwnS.drew ?_) | (with_reducible refine OwnS.alloc ?_ _))); (first | done | fail))); (first | rfl | (simp; first | done | fail)); (first | omega | (simp; first | done | omega)))
            | ((with_reducible apply leafC); (case hk => (focus ((repeat (first | (with_reducible exact blk_new_at _ _ (by first | rfl | (simp; first | done | fail))) | (with_reducible refine blk_next ?_ hb3) | (with_reducible refine blk_drew ?_) | (with_reducible refine blk_alloc ?_ _))); (first | done | fail)))); (case ho => (focus ((repeat (first | (with_reducible exact hos) | (with_reducible refine OwnS.drew ?_) | (with_reducible refine OwnS.alloc ?_ _))); (first | done | fail)))); (case hb => exact bel); (case hg => first | omega | (simp; first | done | omega))))
      obtain ⟨g9, A9, c9, rfl, hk9, ho9, hg9, hb9⟩ := hcut
      obtain ⟨w5, hwc⟩ : ∃ Q9 : World, Q9 = wc := ⟨_, rfl⟩
      subst hwc
      clear ha0 ha1 ha2 ha3 ha4 ha5 ha6 hal
      have hs9 := hb9.size
      have hka5 := blk_below hka hb9 (by omega)
      have hkb5 := blk_below hkb hb9 (by omega)
      have hbw5 : Below w.heap.size w w5 := hbw1.trans (hb9.mono (by omega))
      obtain ⟨hx0, hx1, hx2, hx3, hx4, hx5, hx6, hxl⟩ := blk7 hka5
      go_wp2_with (first | (go_at_call 31; refine (i_CopyOk d f w.heap.size A ss.length c ss K W H O _ (hS.below hbw5) hbw5.size).mono ?_; rw [HC.out]; rintro e w6 ⟨rfl, hb6⟩; (have hbw6 : Below w.heap.size w w6 := hbw5.trans (hb6.mono hbw5.size)); (have hka6 := blk_next hka5 hb6); (have hkb6 := blk_next hkb5 hb6); (have hk96 := blk_next hk9 hb6); (have ho6 := ho9.below hb6); clear hx0 hx1 hx2 hx3 hx4 hx5 hx6 hxl; obtain ⟨hx0, hx1, hx2, hx3, hx4, hx5, hx6, hxl⟩ := blk7 hka6; obtain ⟨hy0, hy1, hy2, hy3, hy4, hy5, hy6, hyl⟩ := blk7 hk96; obtain ⟨⟨hv0, hv1, hv2, hv3⟩, hv4, hv5, hv6⟩ := blk7f hkb6; obtain ⟨hr0, hr1, hr2, hr3, hr4, hr5, hr6, hrl⟩ := blk7 hkb6) | (go_at_call 25; refine (i_LeftOf d f w.heap.size A ss.length c ss K W H O _ (hS.below hbw6) hbw6.size).mono ?_; rintro e w7 ⟨rfl, hb7⟩; (have hbw7 : Below w.heap.size w w7 := hbw6.trans (hb7.mono hbw6.size)); (have hka7 := blk_next hka6 hb7); (have hkb7 := blk_next hkb6 hb7); (have hk97 := blk_next hk96 hb7); (have ho7 := ho6.below hb7); clear hx0 hx1 hx2 hx3 hx4 hx5 hx6 hxl hy0 hy1 hy2 hy3 hy4 hy5 hy6 hyl hv0 hv1 hv2 hv3 hv4 hv5 hv6 hr0 hr1 hr2 hr3 hr4 hr5 hr6 hrl; obtain ⟨hx0, hx1, hx2, hx3, hx4, hx5, hx6, hxl⟩ := blk7 hka7; obtain ⟨hy0, hy1, hy2, hy3, hy4, hy5, hy6, hyl⟩ := blk7 hk97; obtain ⟨⟨hv0, hv1, hv2, hv3⟩, hv4, hv5, hv6⟩ := blk7f hkb7; obtain ⟨hr0, hr1, hr2, hr3, hr4, hr5, hr6, hrl⟩ := blk7 hkb7; obtain ⟨⟨hu0, hu1, hu2, hu3⟩, hu4, hu5, hu6⟩ := blk7f hk97) | (go_at_call 40; refine (i_within _ _ _ _).mono ?_; rintro e w' ⟨rfl, rfl⟩; rw [HI.out]))
      refine bodyPost_ret (v := .tuple #[.agg #[.int .i64 d, .int .i64 f, .slice A9 ss.length c9, .int .i64 K, .int .i64 W, .int .i64 H, .int .i64 O], .bool false]) (by simp [results, Try.results9, go_sem, *]) rfl ?_
      rw [HR.out]
      exact ⟨A9, c9, rfl, OwnS.of (own_up ho7.row upr (show w.heap.size ≤ w1.heap.size by omega)) (Nat.le_refl _), bel⟩
    · have HR := Lib.hid (openRes_yes hc hi)
      have hO := copyOk_O hc
      have hlb := leftOf_bd d f ss K W H O
      have hti := inB_iff.1 hi
      have hwt : IntKind.i64.wrap (O + t) = O + t := by rw [IntKind.wrap_i64]; omega
      have HC := Lib.hid hc
      have HI := Lib.hid hi
      clear hc hi hti hlb
      go_enter Try.func9, Try.ntmps9
      go_upto_region 1 with fail
      rw [← hw1]
      clear hw1
      obtain ⟨ha0, ha1, ha2, ha3, ha4, ha5, ha6, hal⟩ := blk7 hka
      go_cut [6] (fun s6 wx => ∃ (g : Nat) (A9 : Option Addr) (c9 : Nat), s6 = .pointer (some ⟨g, 0, none⟩) ∧ wx.heap[g]? = some (.cells #[.int .i64 d, .int .i64 f, .slice A9 ss.length c9, .int .i64 K, .int .i64 W, .int .i64 H, .int .i64 O] 33 (0, 0)) ∧ OwnS wx w1.heap.size wx.heap.size A9 c9 ss ∧ w1.heap.size ≤ g ∧ Below w1.heap.size w1 wx)
      case first =>
        go_region_held3 (fun W => (∀ b o, b < w1.heap.size → W.cell? ⟨b, o, none⟩ = (w1).cell? ⟨b, o, none⟩) ∧ (∀ b o, b < w1.heap.size → W.frozen? ⟨b, o, none⟩ = (w1).frozen? ⟨b, o, none⟩) ∧ Below (w1.heap.size) (w1) W) (exact keep_of bel) (first | (go_at_call 39; have hq := (‹_ ∧ _ ∧ Below _ _ _›).2.2; refine (i_copied d f w.heap.size A ss.length c ss _ ?_ ?_).mono ?_; exact hS1.below (hq.mono (by omega)); (first | exact Nat.le_trans (by omega) hq.size | omega); rintro e w3 ⟨A3, c3, rfl, ho3, hb3⟩; have hqs3 := hq.size; have hbs3 := hb3.size; (try simp at hqs3); (try simp at hbs3); (have hos : OwnS w3 w1.heap.size w3.heap.size A3 c3 ss := (OwnS.of ho3 (Nat.le_refl _)).wide (by first | exact hq.size | omega) (Nat.le_refl _)); obtain ⟨hcb3, hfb3⟩ := bcell hb3; (try (have hzl1 : w1.heap.size < w3.heap.size := (by omega)))))
        all_goals (go_wp2_with fail)
        all_goals (go_meet)
        all_goals (
          refine ⟨_, A3, c3, rfl, ?_⟩
          first
            | ((with_reducible refine leafCN ?_ ?_ ?_ ?_); (first | exact bel); (focus ((repeat (first | (with_reducible exact hos) | (with_reducible refine OwnS.drew ?_) | (with_reducible refine OwnS.alloc ?_ _))); (first | done | fail))); (first | rfl | (simp; first | done | fail)); (first | omega | (simp; first | done | omega)))
            | ((with_reducible apply leafC); (case hk => (focus ((repeat (first | (with_reducible exact blk_new_at _ _ (by first | rfl | (simp; first | done | fail))) | (with_reducible refine blk_next ?_ hb3) | (with_reducible refine blk_drew ?_) | (with_reducible refine blk_alloc ?_ _))); (first | done | fail)))); (case ho => (focus ((repeat (first | (with_reducible exact hos) | (with_reducible refine OwnS.drew ?_) | (with_reducible refine OwnS.alloc ?_ _))); (first | done | fail)))); (case hb => exact bel); (case hg => first | omega | (simp; first | done | omega))))
      obtain ⟨g9, A9, c9, rfl, hk9, ho9, hg9, hb9⟩ := hcut
      obtain ⟨w5, hwc⟩ : ∃ Q9 : World, Q9 = wc := ⟨_, rfl⟩
      subst hwc
      clear ha0 ha1 ha2 ha3 ha4 ha5 ha6 hal
      have hs9 := hb9.size
      have hka5 := blk_below hka hb9 (by omega)
      have hkb5 := blk_below hkb hb9 (by omega)
      have hbw5 : Below w.heap.size w w5 := hbw1.trans (hb9.mono (by omega))
      obtain ⟨hx0, hx1, hx2, hx3, hx4, hx5, hx6, hxl⟩ := blk7 hka5
      go_wp2_with (first | (go_at_call 31; refine (i_CopyOk d f w.heap.size A ss.length c ss K W H O _ (hS.below hbw5) hbw5.size).mono ?_; rw [HC.out]; rintro e w6 ⟨rfl, hb6⟩; (have hbw6 : Below w.heap.size w w6 := hbw5.trans (hb6.mono hbw5.size)); (have hka6 := blk_next hka5 hb6); (have hkb6 := blk_next hkb5 hb6); (have hk96 := blk_next hk9 hb6); (have ho6 := ho9.below hb6); clear hx0 hx1 hx2 hx3 hx4 hx5 hx6 hxl; obtain ⟨hx0, hx1, hx2, hx3, hx4, hx5, hx6, hxl⟩ := blk7 hka6; obtain ⟨hy0, hy1, hy2, hy3, hy4, hy5, hy6, hyl⟩ := blk7 hk96; obtain ⟨⟨hv0, hv1, hv2, hv3⟩, hv4, hv5, hv6⟩ := blk7f hkb6; obtain ⟨hr0, hr1, hr2, hr3, hr4, hr5, hr6, hrl⟩ := blk7 hkb6) | (go_at_call 25; refine (i_LeftOf d f w.heap.size A ss.length c ss K W H O _ (hS.below hbw6) hbw6.size).mono ?_; rintro e w7 ⟨rfl, hb7⟩; (have hbw7 : Below w.heap.size w w7 := hbw6.trans (hb7.mono hbw6.size)); (have hka7 := blk_next hka6 hb7); (have hkb7 := blk_next hkb6 hb7); (have hk97 := blk_next hk96 hb7); (have ho7 := ho6.below hb7); clear hx0 hx1 hx2 hx3 hx4 hx5 hx6 hxl hy0 hy1 hy2 hy3 hy4 hy5 hy6 hyl hv0 hv1 hv2 hv3 hv4 hv5 hv6 hr0 hr1 hr2 hr3 hr4 hr5 hr6 hrl; obtain ⟨hx0, hx1, hx2, hx3, hx4, hx5, hx6, hxl⟩ := blk7 hka7; obtain ⟨hy0, hy1, hy2, hy3, hy4, hy5, hy6, hyl⟩ := blk7 hk97; obtain ⟨⟨hv0, hv1, hv2, hv3⟩, hv4, hv5, hv6⟩ := blk7f hkb7; obtain ⟨hr0, hr1, hr2, hr3, hr4, hr5, hr6, hrl⟩ := blk7 hkb7; obtain ⟨⟨hu0, hu1, hu2, hu3⟩, hu4, hu5, hu6⟩ := blk7f hk97) | (go_at_call 40; refine (i_within _ _ _ _).mono ?_; rintro e w' ⟨rfl, rfl⟩; rw [HI.out]))
      have hb7sz : w5.heap.size ≤ w7.heap.size := Nat.le_trans hb6.size hb7.size
      have ho8 : OwnS (w7.setCell ⟨g9, 6, none⟩ (.int .i64 (O + t))) w1.heap.size w7.heap.size A9 c9 ss := (ho7.wide (Nat.le_refl _) hb7sz).box hk97 (by decide) (only_setCell (World.grownBy.refl _ _) (.inl rfl) _)
      refine bodyPost_ret (v := .tuple #[.agg #[.int .i64 d, .int .i64 f, .slice A9 ss.length c9, .int .i64 K, .int .i64 W, .int .i64 H, .int .i64 (O + t)], .bool true]) (by simp [results, Try.results9, go_sem, *]) rfl ?_
      rw [HR.out]
      exact ⟨A9, c9, rfl, OwnS.of (own_up ho8.row upr (show w.heap.size ≤ w1.heap.size by omega)) (Nat.le_refl _), bel⟩
set_option maxHeartbeats 1600000 in
theorem s_l26Copy (d f : Int) (B : Nat) (A : Option Addr) (c : Nat) (ss : List ByteArray) (K W H O : Int) (w : World) (hS : Strs w B A ss.length ss) (hB : B ≤ w.heap.size) :
    Calls Try.prog 33 #[.agg #[.int .i64 d, .int .i64 f, .slice A ss.length c, .int .i64 K, .int .i64 W, .int .i64 H, .int .i64 O]] w fun e w' => ∃ A' c', e = .returned (.agg #[.int .i64 d, .int .i64 f, .slice A' ss.length c', .int .i64 K, .int .i64 W, .int .i64 H, .int .i64 O]) ∧ OwnS w' w.heap.size w'.heap.size A' c' ss ∧ Below w.heap.size w w' := by
  have hS2 := (hS.alloc hB (.cells #[.int .i64 d, .int .i64 f, .slice A ss.length c, .int .i64 K, .int .i64 W, .int .i64 H, .int .i64 O] 33)).alloc (by simp; omega) (.cells #[.int .i64 0, .int .i64 0, .slice none 0 0, .int .i64 0, .int .i64 0, .int .i64 0, .int .i64 0] 33)
  have hka : ((w.alloc (.cells #[.int .i64 d, .int .i64 f, .slice A ss.length c, .int .i64 K, .int .i64 W, .int .i64 H, .int .i64 O] 33)).alloc (.cells #[.int .i64 0, .int .i64 0, .slice none 0 0, .int .i64 0, .int .i64 0, .int .i64 0, .int .i64 0] 33)).heap[w.heap.size]? = some (.cells #[.int .i64 d, .int .i64 f, .slice A ss.length c, .int .i64 K, .int .i64 W, .int .i64 H, .int .i64 O] 33 (0, 0)) := blk_alloc (blk_new _ _) _
  have hkb : ((w.alloc (.cells #[.int .i64 d, .int .i64 f, .slice A ss.length c, .int .i64 K, .int .i64 W, .int .i64 H, .int .i64 O] 33)).alloc (.cells #[.int .i64 0, .int .i64 0, .slice none 0 0, .int .i64 0, .int .i64 0, .int .i64 0, .int .i64 0] 33)).heap[w.heap.size + 1]? = some (.cells #[.int .i64 0, .int .i64 0, .slice none 0 0, .int .i64 0, .int .i64 0, .int .i64 0, .int .i64 0] 33 (0, 0)) := blk_new_at _ _ (by simp)
  go_enter Try.func33, Try.ntmps33
  go_wp2_with (go_at_call 69; refine (s_l05Copy d f B A ss.length c ss _ hS2 (by simp; omega)).mono ?_; rintro e w1 ⟨A1, c1, rfl, ho1, hb1⟩; (have hka1 := blk_next hka hb1); (have hkb1 := blk_next hkb hb1); obtain ⟨hx0, hx1, hx2, hx3, hx4, hx5, hx6, hxl⟩ := blk7 hka1; obtain ⟨hr0, hr1, hr2, hr3, hr4, hr5, hr6, hrl⟩ := blk7 hkb1; obtain ⟨⟨hv0, hv1, hv2, hv3⟩, hv4, hv5, hv6⟩ := blk7f hkb1; obtain ⟨⟨hu0, hu1, hu2, hu3⟩, hu4, hu5, hu6⟩ := blk7f hka1)
  refine bodyPost_ret (v := .agg #[.int .i64 d, .int .i64 f, .slice A1 ss.length c1, .int .i64 K, .int .i64 W, .int .i64 H, .int .i64 O]) (by simp [results, Try.results33, go_sem, *]) rfl ?_
  exact ⟨A1, c1, rfl, OwnS.of (own_up ho1 upr (by first | exact Nat.le_refl _ | (simp; done) | omega | (simp; omega) | exact (‹_ ∧ _ ∧ Below _ _ _›).2.2.size)) (Nat.le_refl _), bel⟩
set_option maxHeartbeats 3200000 in
theorem s_OpenCopy (d f : Int) (A : Option Addr) (c : Nat) (ss : List ByteArray) (K W H O t : Int) (w : World) (hS : Strs w w.heap.size A ss.length ss) :
    Calls Try.prog 7 #[.agg #[.int .i64 d, .int .i64 f, .slice A ss.length c, .int .i64 K, .int .i64 W, .int .i64 H, .int .i64 O], .int .i64 t] w fun e w' => ∃ A' c', e = .returned (.tuple #[.agg #[.int .i64 d, .int .i64 f, .slice A' ss.length c', .int .i64 K, .int .i64 W, .int .i64 H, .int .i64 (openRes d f ss K W H O t).1], .bool (openRes d f ss K W H O t).2]) ∧ OwnS w' w.heap.size w'.heap.size A' c' ss ∧ Below w.heap.size w w' := by
  have hn := hS.nb
  obtain ⟨w1, hw1⟩ : ∃ Q9 : World, Q9 = (w.alloc (.cells #[.int .i64 d, .int .i64 f, .slice A ss.length c, .int .i64 K, .int .i64 W, .int .i64 H, .int .i64 O] 33)).alloc (.cells #[.int .i64 0, .int .i64 0, .slice none 0 0, .int .i64 0, .int .i64 0, .int .i64 0, .int .i64 0] 33) := ⟨_, rfl⟩
  have hbw1 : Below w.heap.size w w1 := by rw [hw1]; exact bel
  have hS1 : Strs w1 w.heap.size A ss.length ss := hS.below hbw1
  have hz1 : w.heap.size + 2 ≤ w1.heap.size := by rw [hw1]; simp
  have hka : w1.heap[w.heap.size]? = some (.cells #[.int .i64 d, .int .i64 f, .slice A ss.length c, .int .i64 K, .int .i64 W, .int .i64 H, .int .i64 O] 33 (0, 0)) := by rw [hw1]; exact blk_alloc (blk_new _ _) _
  have hkb : w1.heap[w.heap.size + 1]? = some (.cells #[.int .i64 0, .int .i64 0, .slice none 0 0, .int .i64 0, .int .i64 0, .int .i64 0, .int .i64 0] 33 (0, 0)) := by rw [hw1]; exact blk_new_at _ _ (by simp)
  have hzx0 : w.heap.size < w1.heap.size := by omega
  have hzx1 : w.heap.size + 1 < w1.heap.size := by omega
  cases hc : copyOk d f ss K W H O
  · have HR := Lib.hid (openRes_no1 (t := t) hc)
    have HC := Lib.hid hc
    clear hc
    go_enter Try.func7, Try.ntmps7
    go_wp2_with fail
    rw [← hw1]
    clear hw1
    refine (s_l26Copy d f w.heap.size A c ss K W H O w1 hS1 (by omega)).mono ?_
    rintro e w3 ⟨A9, c9, rfl, hos, hb3⟩
    obtain ⟨w5, hw5⟩ : ∃ Q9 : World, Q9 = w3.alloc (.cells #[.int .i64 d, .int .i64 f, .slice A9 ss.length c9, .int .i64 K, .int .i64 W, .int .i64 H, .int .i64 O] 33) := ⟨_, rfl⟩
    obtain ⟨g9, hge⟩ : ∃ g, g = w3.heap.size := ⟨_, rfl⟩
    have hbs3 := hb3.size
    obtain ⟨ht0, ht1, ht2, ht3, ht4, ht5, ht6, htl⟩ := blk7 (blk_next hka hb3)
    have hk9 : w5.heap[g9]? = some (.cells #[.int .i64 d, .int .i64 f, .slice A9 ss.length c9, .int .i64 K, .int .i64 W, .int .i64 H, .int .i64 O] 33 (0, 0)) := by rw [hw5, hge]; exact blk_new _ _
    have ho9 : OwnS w5 w1.heap.size w5.heap.size A9 c9 ss := by rw [hw5]; exact (hos.alloc _).wide (Nat.le_refl _) (by simp)
    have hg9 : w1.heap.size ≤ g9 := by omega
    have hb9 : Below w1.heap.size w1 w5 := by rw [hw5]; exact bel
    have hs9 := hb9.size
    have hka5 := blk_below hka hb9 (by omega)
    have hkb5 := blk_below hkb hb9 (by omega)
    have hbw5 : Below w.heap.size w w5 := hbw1.trans (hb9.mono (by omega))
    obtain ⟨hx0, hx1, hx2, hx3, hx4, hx5, hx6, hxl⟩ := blk7 hka5
    go_wp2_with fail
    rw [← hw5, ← hge]
    clear hw5 hge ht0 ht1 ht2 ht3 ht4 ht5 ht6 htl
    go_wp2_with (first | (go_at_call 34; refine (s_CopyOk d f w.heap.size A ss.length c ss K W H O _ (hS.below hbw5) hbw5.size).mono ?_; rw [HC.out]; rintro e w6 ⟨rfl, hb6⟩; (have hbw6 : Below w.heap.size w w6 := hbw5.trans (hb6.mono hbw5.size)); (have hka6 := blk_next hka5 hb6); (have hkb6 := blk_next hkb5 hb6); (have hk96 := blk_next hk9 hb6); (have ho6 := ho9.below hb6); clear hx0 hx1 hx2 hx3 hx4 hx5 hx6 hxl; obtain ⟨hx0, hx1, hx2, hx3, hx4, hx5, hx6, hxl⟩ := blk7 hka6; obtain ⟨hy0, hy1, hy2, hy3, hy4, hy5, hy6, hyl⟩ := blk7 hk96; obtain ⟨⟨hv0, hv1, hv2, hv3⟩, hv4, hv5, hv6⟩ := blk7f hkb6; obtain ⟨hr0, hr1, hr2, hr3, hr4, hr5, hr6, hrl⟩ := blk7 hkb6))
    refine bodyPost_ret (v := .tuple #[.agg #[.int .i64 d, .int .i64 f, .slice A9 ss.length c9, .int .i64 K, .int .i64 W, .int .i64 H, .int .i64 O], .bool false]) (by simp [results, Try.results7, go_sem, *]) rfl ?_
    rw [HR.out]
    exact ⟨A9, c9, rfl, OwnS.of (own_up ho6.row upr (show w.heap.size ≤ w1.heap.size by omega)) (Nat.le_refl _), bel⟩
  · cases hi : inB t 0 (leftOf d f ss K W H O)
    · have HR := Lib.hid (openRes_no2 hi)
      have HC := Lib.hid hc
      have HI := Lib.hid hi
      clear hc hi
      go_enter Try.func7, Try.ntmps7
      go_wp2_with fail
      rw [← hw1]
      clear hw1
      refine (s_l26Copy d f w.heap.size A c ss K W H O w1 hS1 (by omega)).mono ?_
      rintro e w3 ⟨A9, c9, rfl, hos, hb3⟩
      obtain ⟨w5, hw5⟩ : ∃ Q9 : World, Q9 = w3.alloc (.cells #[.int .i64 d, .int .i64 f, .slice A9 ss.length c9, .int .i64 K, .int .i64 W, .int .i64 H, .int .i64 O] 33) := ⟨_, rfl⟩
      obtain ⟨g9, hge⟩ : ∃ g, g = w3.heap.size := ⟨_, rfl⟩
      have hbs3 := hb3.size
      obtain ⟨ht0, ht1, ht2, ht3, ht4, ht5, ht6, htl⟩ := blk7 (blk_next hka hb3)
      have hk9 : w5.heap[g9]? = some (.cells #[.int .i64 d, .int .i64 f, .slice A9 ss.length c9, .int .i64 K, .int .i64 W, .int .i64 H, .int .i64 O] 33 (0, 0)) := by rw [hw5, hge]; exact blk_new _ _
      have ho9 : OwnS w5 w1.heap.size w5.heap.size A9 c9 ss := by rw [hw5]; exact (hos.alloc _).wide (Nat.le_refl _) (by simp)
      have hg9 : w1.heap.size ≤ g9 := by omega
      have hb9 : Below w1.heap.size w1 w5 := by rw [hw5]; exact bel
      have hs9 := hb9.size
      have hka5 := blk_below hka hb9 (by omega)
      have hkb5 := blk_below hkb hb9 (by omega)
      have hbw5 : Below w.heap.size w w5 := hbw1.trans (hb9.mono (by omega))
      obtain ⟨hx0, hx1, hx2, hx3, hx4, hx5, hx6, hxl⟩ := blk7 hka5
      go_wp2_with fail
      rw [← hw5, ← hge]
      clear hw5 hge ht0 ht1 ht2 ht3 ht4 ht5 ht6 htl
      go_wp2_with (first | (go_at_call 34; refine (s_CopyOk d f w.heap.size A ss.length c ss K W H O _ (hS.below hbw5) hbw5.size).mono ?_; rw [HC.out]; rintro e w6 ⟨rfl, hb6⟩; (have hbw6 : Below w.heap.size w w6 := hbw5.trans (hb6.mono hbw5.size)); (have hka6 := blk_next hka5 hb6); (have hkb6 := blk_next hkb5 hb6); (have hk96 := blk_next hk9 hb6); (have ho6 := ho9.below hb6); clear hx0 hx1 hx2 hx3 hx4 hx5 hx6 hxl; obtain ⟨hx0, hx1, hx2, hx3, hx4, hx5, hx6, hxl⟩ := blk7 hka6; obtain ⟨hy0, hy1, hy2, hy3, hy4, hy5, hy6, hyl⟩ := blk7 hk96; obtain ⟨⟨hv0, hv1, hv2, hv3⟩, hv4, hv5, hv6⟩ := blk7f hkb6; obtain ⟨hr0, hr1, hr2, hr3, hr4, hr5, hr6, hrl⟩ := blk7 hkb6) | (go_at_call 36; refine (s_LeftOf d f w.heap.size A ss.length c ss K W H O _ (hS.below hbw6) hbw6.size).mono ?_; rintro e w7 ⟨rfl, hb7⟩; (have hbw7 : Below w.heap.size w w7 := hbw6.trans (hb7.mono hbw6.size)); (have hka7 := blk_next hka6 hb7); (have hkb7 := blk_next hkb6 hb7); (have hk97 := blk_next hk96 hb7); (have ho7 := ho6.below hb7); clear hx0 hx1 hx2 hx3 hx4 hx5 hx6 hxl hy0 hy1 hy2 hy3 hy4 hy5 hy6 hyl hv0 hv1 hv2 hv3 hv4 hv5 hv6 hr0 hr1 hr2 hr3 hr4 hr5 hr6 hrl; obtain ⟨hx0, hx1, hx2, hx3, hx4, hx5, hx6, hxl⟩ := blk7 hka7; obtain ⟨hy0, hy1, hy2, hy3, hy4, hy5, hy6, hyl⟩ := blk7 hk97; obtain ⟨⟨hv0, hv1, hv2, hv3⟩, hv4, hv5, hv6⟩ := blk7f hkb7; obtain ⟨hr0, hr1, hr2, hr3, hr4, hr5, hr6, hrl⟩ := blk7 hkb7; obtain ⟨⟨hu0, hu1, hu2, hu3⟩, hu4, hu5, hu6⟩ := blk7f hk97) | (go_at_call 35; refine (s_l01In _ _ _ _).mono ?_; rintro e w' ⟨rfl, rfl⟩; rw [HI.out]))
      refine bodyPost_ret (v := .tuple #[.agg #[.int .i64 d, .int .i64 f, .slice A9 ss.length c9, .int .i64 K, .int .i64 W, .int .i64 H, .int .i64 O], .bool false]) (by simp [results, Try.results7, go_sem, *]) rfl ?_
      rw [HR.out]
      exact ⟨A9, c9, rfl, OwnS.of (own_up ho7.row upr (show w.heap.size ≤ w1.heap.size by omega)) (Nat.le_refl _), bel⟩
    · have HR := Lib.hid (openRes_yes hc hi)
      have hO := copyOk_O hc
      have hlb := leftOf_bd d f ss K W H O
      have hti := inB_iff.1 hi
      have hwt : IntKind.i64.wrap (O + t) = O + t := by rw [IntKind.wrap_i64]; omega
      have HC := Lib.hid hc
      have HI := Lib.hid hi
      clear hc hi hti hlb
      go_enter Try.func7, Try.ntmps7
      go_wp2_with fail
      rw [← hw1]
      clear hw1
      refine (s_l26Copy d f w.heap.size A c ss K W H O w1 hS1 (by omega)).mono ?_
      rintro e w3 ⟨A9, c9, rfl, hos, hb3⟩
      obtain ⟨w5, hw5⟩ : ∃ Q9 : World, Q9 = w3.alloc (.cells #[.int .i64 d, .int .i64 f, .slice A9 ss.length c9, .int .i64 K, .int .i64 W, .int .i64 H, .int .i64 O] 33) := ⟨_, rfl⟩
      obtain ⟨g9, hge⟩ : ∃ g, g = w3.heap.size := ⟨_, rfl⟩
      have hbs3 := hb3.size
      obtain ⟨ht0, ht1, ht2, ht3, ht4, ht5, ht6, htl⟩ := blk7 (blk_next hka hb3)
      have hk9 : w5.heap[g9]? = some (.cells #[.int .i64 d, .int .i64 f, .slice A9 ss.length c9, .int .i64 K, .int .i64 W, .int .i64 H, .int .i64 O] 33 (0, 0)) := by rw [hw5, hge]; exact blk_new _ _
      have ho9 : OwnS w5 w1.heap.size w5.heap.size A9 c9 ss := by rw [hw5]; exact (hos.alloc _).wide (Nat.le_refl _) (by simp)
      have hg9 : w1.heap.size ≤ g9 := by omega
      have hb9 : Below w1.heap.size w1 w5 := by rw [hw5]; exact bel
      have hs9 := hb9.size
      have hka5 := blk_below hka hb9 (by omega)
      have hkb5 := blk_below hkb hb9 (by omega)
      have hbw5 : Below w.heap.size w w5 := hbw1.trans (hb9.mono (by omega))
      obtain ⟨hx0, hx1, hx2, hx3, hx4, hx5, hx6, hxl⟩ := blk7 hka5
      go_wp2_with fail
      rw [← hw5, ← hge]
      clear hw5 hge ht0 ht1 ht2 ht3 ht4 ht5 ht6 htl
      go_wp2_with (first | (go_at_call 34; refine (s_CopyOk d f w.heap.size A ss.length c ss K W H O _ (hS.below hbw5) hbw5.size).mono ?_; rw [HC.out]; rintro e w6 ⟨rfl, hb6⟩; (have hbw6 : Below w.heap.size w w6 := hbw5.trans (hb6.mono hbw5.size)); (have hka6 := blk_next hka5 hb6); (have hkb6 := blk_next hkb5 hb6); (have hk96 := blk_next hk9 hb6); (have ho6 := ho9.below hb6); clear hx0 hx1 hx2 hx3 hx4 hx5 hx6 hxl; obtain ⟨hx0, hx1, hx2, hx3, hx4, hx5, hx6, hxl⟩ := blk7 hka6; obtain ⟨hy0, hy1, hy2, hy3, hy4, hy5, hy6, hyl⟩ := blk7 hk96; obtain ⟨⟨hv0, hv1, hv2, hv3⟩, hv4, hv5, hv6⟩ := blk7f hkb6; obtain ⟨hr0, hr1, hr2, hr3, hr4, hr5, hr6, hrl⟩ := blk7 hkb6) | (go_at_call 36; refine (s_LeftOf d f w.heap.size A ss.length c ss K W H O _ (hS.below hbw6) hbw6.size).mono ?_; rintro e w7 ⟨rfl, hb7⟩; (have hbw7 : Below w.heap.size w w7 := hbw6.trans (hb7.mono hbw6.size)); (have hka7 := blk_next hka6 hb7); (have hkb7 := blk_next hkb6 hb7); (have hk97 := blk_next hk96 hb7); (have ho7 := ho6.below hb7); clear hx0 hx1 hx2 hx3 hx4 hx5 hx6 hxl hy0 hy1 hy2 hy3 hy4 hy5 hy6 hyl hv0 hv1 hv2 hv3 hv4 hv5 hv6 hr0 hr1 hr2 hr3 hr4 hr5 hr6 hrl; obtain ⟨hx0, hx1, hx2, hx3, hx4, hx5, hx6, hxl⟩ := blk7 hka7; obtain ⟨hy0, hy1, hy2, hy3, hy4, hy5, hy6, hyl⟩ := blk7 hk97; obtain ⟨⟨hv0, hv1, hv2, hv3⟩, hv4, hv5, hv6⟩ := blk7f hkb7; obtain ⟨hr0, hr1, hr2, hr3, hr4, hr5, hr6, hrl⟩ := blk7 hkb7; obtain ⟨⟨hu0, hu1, hu2, hu3⟩, hu4, hu5, hu6⟩ := blk7f hk97) | (go_at_call 35; refine (s_l01In _ _ _ _).mono ?_; rintro e w' ⟨rfl, rfl⟩; rw [HI.out]))
      have hb7sz : w5.heap.size ≤ w7.heap.size := Nat.le_trans hb6.size hb7.size
      have ho8 : OwnS (w7.setCell ⟨g9, 6, none⟩ (.int .i64 (O + t))) w1.heap.size w7.heap.size A9 c9 ss := (ho7.wide (Nat.le_refl _) hb7sz).box hk97 (by decide) (only_setCell (World.grownBy.refl _ _) (.inl rfl) _)
      refine bodyPost_ret (v := .tuple #[.agg #[.int .i64 d, .int .i64 f, .slice A9 ss.length c9, .int .i64 K, .int .i64 W, .int .i64 H, .int .i64 (O + t)], .bool true]) (by simp [results, Try.results7, go_sem, *]) rfl ?_
      rw [HR.out]
      exact ⟨A9, c9, rfl, OwnS.of (own_up ho8.row upr (show w.heap.size ≤ w1.heap.size by omega)) (Nat.le_refl _), bel⟩
end Go.Proofs.Ytdddglihomchfaa
namespace Go.Proofs.Ytdddglihomchfaa
open Go.ChangeShapes Go.WideShapes Go.ChangeAt Go.RowKit
set_option linter.unusedVariables false
set_option maxRecDepth 10000
set_option maxHeartbeats 400000 in
theorem l_toPaper (k a b : Int) (w : World) : Calls Try.prog 38 #[.agg #[.int .i64 k, .int .i64 a, .int .i64 b]] w fun e w' => e = .returned (.agg #[.int .i64 k, .int .i64 a, .int .i64 b]) ∧ Below w.heap.size w w' := by
  go_enter Try.func38, Try.ntmps38
  go_wp2
  refine bodyPost_ret (v := .agg #[.int .i64 k, .int .i64 a, .int .i64 b]) (by simp [results, Try.results38, go_sem]) rfl ?_
  exact ⟨rfl, bel⟩
end Go.Proofs.Ytdddglihomchfaa
namespace Go.Proofs.Ytdddglihomchfaa
open Go.ChangeShapes Go.WideShapes Go.ChangeAt Go.RowKit
set_option linter.unusedVariables false
set_option maxRecDepth 10000
set_option maxHeartbeats 1600000 in
theorem l_eqPaper_same (k g s : Int) (w : World) : Calls Try.prog 42 #[.agg #[.int .i64 k, .int .i64 g, .int .i64 s], .agg #[.int .i64 k, .int .i64 g, .int .i64 s]] w fun e w' => e = .returned (.bool true) ∧ Below w.heap.size w w' := by
  go_enter Try.func42, Try.ntmps42
  go_wp2
  go_ret
  exact ⟨rfl, bel⟩
def mkPaper (k : Int) : List Value := [.int .i64 (k), .int .i64 (k + 1), .int .i64 (k + 1 + 1)]
def marksPaper (k : Int) (n : Nat) : List Value := (List.range n).flatMap fun (i : Nat) => mkPaper (k + 3 * (i : Int))
end Go.Proofs.Ytdddglihomchfaa
namespace Go.Proofs.Ytdddglihomchfaa
open Go.ChangeShapes Go.WideShapes Go.ChangeAt Go.RowKit
set_option linter.unusedVariables false
set_option maxRecDepth 10000
set_option maxHeartbeats 800000 in
theorem l_szCopy (d f K X H O : Int) (B : Nat) (A : Option Addr) (n c : Nat) (ss : List ByteArray) (left : Int) (w : World) (hB : B ≤ w.heap.size) (hR : Reads w B 1 A n (ss.map Value.string)) (hn : n ≤ 9223372036854775807) (hs : ∀ s ∈ ss, s.size ≤ 9223372036854775807) (h0 : -1 ≤ left) (h1 : left ≤ 1048576) :
    Calls Try.prog 6 #[.agg #[.int .i64 d, .int .i64 f, .slice A n c, .int .i64 K, .int .i64 X, .int .i64 H, .int .i64 O], .int .i64 left] w fun e w' => e = .returned (.int .i64 (szStrs ss left)) ∧ Below w.heap.size w w' := by
  have hr : -1 ≤ szStrs ss left := by unfold szStrs; split <;> omega
  have hc := fun (W : World) (hW : Below w.heap.size w W) => l_szCard d f B A n c ss left W (Nat.le_trans hB hW.size) (hR.below (hW.mono hB)) hn hs (by omega) (by omega)
  have HC := hide hc
  clear hc
  generalize szStrs ss left = q at *
  by_cases h3 : q < 0
  · have hq : q = -1 := by omega
    have HQ := Lib.hid hq
    clear hq
    go_enter Try.func6, Try.ntmps6
    go_wp2_with fail
    refine (unhide HC _ (by exact bel)).mono ?_
    rintro e w1 ⟨rfl, hb1⟩
    go_wp2
    go_ret
    exact ⟨ret_int (by rw [HQ.out]), bel⟩
  · go_enter Try.func6, Try.ntmps6
    go_wp2_with fail
    refine (unhide HC _ (by exact bel)).mono ?_
    rintro e w1 ⟨rfl, hb1⟩
    go_wp2
    go_ret
    exact ⟨rfl, bel⟩
def UCopyR (d f K X H O : Int) (ss : List ByteArray) (w : World) (e : Ending) (w' : World) : Prop :=
  ∃ A c, e = .returned (.agg #[.int .i64 d, .int .i64 f, .slice A ss.length c, .int .i64 K, .int .i64 X, .int .i64 H, .int .i64 O]) ∧ OwnS w' w.heap.size w'.heap.size A c ss ∧ Below w.heap.size w w'
set_option maxHeartbeats 800000 in
theorem u_toCopy (d f K X H O : Int) (B : Nat) (A : Option Addr) (n c : Nat) (ss : List ByteArray) (w : World) (hS : Strs w B A n ss) (hB : B ≤ w.heap.size) :
    Calls Try.prog 8 #[.agg #[.int .i64 d, .int .i64 f, .slice A n c, .int .i64 K, .int .i64 X, .int .i64 H, .int .i64 O]] w (UCopyR d f K X H O ss w) := by
  go_enter Try.func8, Try.ntmps8
  go_wp2_with fail
  refine (l_toCard d f B A n c ss _ (by exact hS.below (Below.mono (B := w.heap.size) bel hB)) (by simp; omega)).mono ?_
  rintro e w1 ⟨A1, c1, rfl, ho1, hb1⟩
  obtain ⟨hcb, hfb⟩ := bcell hb1
  have hz_w1_0 : w.heap.size < w1.heap.size := (by have hzz := hb1.size; (try simp at hzz); omega); have hy_w1_0 := Nat.le_of_lt hz_w1_0; have hz_w1_1 : w.heap.size + 1 < w1.heap.size := (by have hzz := hb1.size; (try simp at hzz); omega); have hy_w1_1 := Nat.le_of_lt hz_w1_1; have hz_w1_2 : w.heap.size + 1 + 1 < w1.heap.size := (by have hzz := hb1.size; (try simp at hzz); omega); have hy_w1_2 := Nat.le_of_lt hz_w1_2
  go_wp2_with fail
  refine (l_toPaper _ _ _ _).mono ?_
  rintro e w2 ⟨rfl, hb2⟩
  obtain ⟨hcb2, hfb2⟩ := bcell hb2
  have hz_w2_0 : w.heap.size < w2.heap.size := (by have hzz := hb2.size; (try simp at hzz); omega); have hy_w2_0 := Nat.le_of_lt hz_w2_0
  have hq2 := hb2.size
  (try simp [World.setCell] at hq2)
  go_wp2
  refine bodyPost_ret (v := .agg #[.int .i64 d, .int .i64 f, .slice A1 ss.length c1, .int .i64 K, .int .i64 X, .int .i64 H, .int .i64 O]) (by simp [results, Try.results8, go_sem, *]) rfl ?_
  refine ⟨A1, c1, rfl, OwnS.of (own_up ho1 upr (by first | exact Nat.le_refl _ | (simp; done) | omega | (simp; omega) | exact (‹_ ∧ _ ∧ Below _ _ _›).2.2.size)) (by simp), bel⟩
set_option maxHeartbeats 800000 in
theorem u_eqCopy (d f K X H O : Int) (A1 A2 : Option Addr) (c1 c2 : Nat) (ss : List ByteArray) (lo1 hi1 lo2 hi2 : Nat) (w : World) (h1 : OwnS w lo1 hi1 A1 c1 ss) (h2 : OwnS w lo2 hi2 A2 c2 ss) (hok : OkS ss 16777216) :
    Calls Try.prog 10 #[.agg #[.int .i64 d, .int .i64 f, .slice A1 ss.length c1, .int .i64 K, .int .i64 X, .int .i64 H, .int .i64 O], .agg #[.int .i64 d, .int .i64 f, .slice A2 ss.length c2, .int .i64 K, .int .i64 X, .int .i64 H, .int .i64 O]] w fun e w' => e = .returned (.bool true) ∧ Below w.heap.size w w' := by
  have HO := hide hok
  clear hok
  go_enter Try.func10, Try.ntmps10
  go_wp2_with fail
  refine (u_eqCard d f A1 A2 c1 c2 ss lo1 hi1 lo2 hi2 _ ((h1.alloc _).alloc _) ((h2.alloc _).alloc _) (unhide HO)).mono ?_
  rintro e w1 ⟨rfl, hb1⟩
  obtain ⟨hcb1, hfb1⟩ := bcell hb1
  have hz_w1_0 : w.heap.size < w1.heap.size := (by have hzz := hb1.size; (try simp at hzz); omega); have hy_w1_0 := Nat.le_of_lt hz_w1_0; have hz_w1_1 : w.heap.size + 1 < w1.heap.size := (by have hzz := hb1.size; (try simp at hzz); omega); have hy_w1_1 := Nat.le_of_lt hz_w1_1
  go_wp2_with fail
  refine (l_eqPaper_same _ _ _ _).mono ?_
  rintro e w2 ⟨rfl, hb2⟩
  obtain ⟨hcb2, hfb2⟩ := bcell hb2
  have hq2 := hb2.size
  have hz20 : w.heap.size < w2.heap.size := by omega
  have hz21 : w.heap.size + 1 < w2.heap.size := by omega
  go_wp2
  go_ret
  exact ⟨rfl, bel⟩
set_option maxHeartbeats 400000 in
theorem u_markCopy (d f K X H O : Int) (A : Option Addr) (c : Nat) (ss : List ByteArray) (lo hi : Nat) (k : Int) (w : World) (h : OwnS w lo hi A c ss) (hk0 : 0 ≤ k) (hk1 : k ≤ 4503599627370496) (hn : ss.length ≤ 16777216) :
    Calls Try.prog 11 #[.agg #[.int .i64 d, .int .i64 f, .slice A ss.length c, .int .i64 K, .int .i64 X, .int .i64 H, .int .i64 O], .int .i64 k] w fun e w' => e = .returned (.int .i64 (k + ss.length)) ∧ MkS w' lo hi A c k ss.length ∧ Within lo hi w w' := by
  go_enter Try.func11, Try.ntmps11
  go_wp2_with fail
  refine (u_markCard _ _ _ _ ss lo hi k _ (h.alloc _) hk0 hk1 hn).mono ?_
  rintro e w1 ⟨rfl, hm, hW⟩
  go_wp2
  go_ret
  exact ⟨rfl, hm, (Within.of_below ((Below.refl _ _).alloc (Nat.le_refl _) _)).trans hW⟩
set_option maxHeartbeats 400000 in
theorem u_heldCopy (d f K X H O : Int) (A : Option Addr) (c n : Nat) (lo hi : Nat) (k : Int) (w : World) (h : MkS w lo hi A c k n) (hk0 : 0 ≤ k) (hk1 : k ≤ 4503599627370496) (hn : n ≤ 16777216) :
    Calls Try.prog 12 #[.agg #[.int .i64 d, .int .i64 f, .slice A n c, .int .i64 K, .int .i64 X, .int .i64 H, .int .i64 O], .int .i64 k] w fun e w' => e = .returned (.int .i64 (k + n)) ∧ Below w.heap.size w w' := by
  go_enter Try.func12, Try.ntmps12
  go_wp2_with fail
  refine (u_heldCard _ _ _ _ n lo hi k _ (h.alloc _) hk0 hk1 hn).mono ?_
  rintro e w1 ⟨rfl, hb1⟩
  go_wp2
  go_ret
  exact ⟨rfl, bel⟩
theorem cells_lpaperC : Try.prog.cellsOf 26 = 3 := by kernel_rfl
theorem cells_lcardC : Try.prog.cellsOf 24 = 3 := by kernel_rfl
theorem cells_lcopy : Try.prog.cellsOf 28 = 7 := by kernel_rfl
theorem cells_slC : Try.prog.cellsOf 22 = 1 := by kernel_rfl
theorem cells_intC : Try.prog.cellsOf 3 = 1 := by kernel_rfl
theorem trod_cardC {H : Type} {enc : TypeId × Value → H} {W : World} {n : Nat} {c0 c1 c2 : Value} {x : DataW H × List MemPlace} (h : DataW.trod enc Try.prog W 0 (fun _ => true) true n 24 [c0, c1, c2] = some x) :
    ∃ (d f : Int) (A : Option Addr) (c : Nat) (ss : List ByteArray), c0 = .int .i64 d ∧ c1 = .int .i64 f ∧ c2 = .slice A ss.length c ∧ Reads W W.heap.size 1 A ss.length (ss.map Value.string) ∧ ss.length ≤ maxLen ∧ ∀ s ∈ ss, s.size ≤ maxLen := by
  obtain ⟨m0, y0, h0⟩ := trod_field Try.underlying24 h 0 _ rfl cells_intC
  obtain ⟨m1, y1, h1⟩ := trod_field Try.underlying24 h 1 _ rfl cells_intC
  obtain ⟨m2, y2, h2⟩ := trod_field Try.underlying24 h 2 _ rfl cells_slC
  obtain ⟨d, e0, _, _⟩ := DataW.trod_int Try.underlying3 h0
  obtain ⟨f, e1, _, _⟩ := DataW.trod_int Try.underlying3 h1
  obtain ⟨A, n, c, ss, e2, hR, hm, hs⟩ := reads_strings h2
  simp at e0 e1 e2
  have hl : ss.length = n := by have := hR.1; simpa using this
  subst hl
  exact ⟨d, f, A, c, ss, e0, e1, e2, hR, hm, hs⟩
theorem trod_paperC {H : Type} {enc : TypeId × Value → H} {W : World} {n : Nat} {c0 c1 c2 : Value} {x : DataW H × List MemPlace} (h : DataW.trod enc Try.prog W 0 (fun _ => true) true n 26 [c0, c1, c2] = some x) :
    ∃ (a b c : Int), c0 = .int .i64 a ∧ c1 = .int .i64 b ∧ c2 = .int .i64 c := by
  obtain ⟨m0, y0, h0⟩ := trod_field Try.underlying26 h 0 _ rfl cells_intC
  obtain ⟨m1, y1, h1⟩ := trod_field Try.underlying26 h 1 _ rfl cells_intC
  obtain ⟨m2, y2, h2⟩ := trod_field Try.underlying26 h 2 _ rfl cells_intC
  obtain ⟨a, e0, _, _⟩ := DataW.trod_int Try.underlying3 h0
  obtain ⟨b, e1, _, _⟩ := DataW.trod_int Try.underlying3 h1
  obtain ⟨c, e2, _, _⟩ := DataW.trod_int Try.underlying3 h2
  simp at e0 e1 e2
  exact ⟨a, b, c, e0, e1, e2⟩
theorem open_copy {H : Type} {enc : TypeId × Value → H} {W : World} {r : Reach} {b0 : Nat} {v : Value} {d : DataW H} {p : List MemPlace}
    (hv : Value.okWide Try.prog W r b0 28 v) (h : DataW.Trod enc Try.prog W 0 (fun _ => true) true 28 v d p) :
    ∃ (dn f : Int) (A : Option Addr) (n c : Nat) (ss : List ByteArray) (K X H O : Int), v = .agg #[.int .i64 dn, .int .i64 f, .slice A n c, .int .i64 K, .int .i64 X, .int .i64 H, .int .i64 O] ∧ Reads W W.heap.size 1 A n (ss.map Value.string) ∧ n ≤ maxLen ∧ (∀ s ∈ ss, s.size ≤ maxLen) := by
  obtain ⟨cs, rfl, hsz⟩ := okWide_struct Try.underlying28 hv
  obtain ⟨c0, c1, c2, c3, c4, c5, c6, rfl⟩ : ∃ c0 c1 c2 c3 c4 c5 c6, cs = #[c0, c1, c2, c3, c4, c5, c6] := by
    have hsz2 := hsz.trans cells_lcopy
    obtain ⟨l⟩ := cs
    match l, hsz2 with
    | [c0, c1, c2, c3, c4, c5, c6], _ => exact ⟨c0, c1, c2, c3, c4, c5, c6, rfl⟩
  obtain ⟨fuel, hf⟩ := h
  have hf' : DataW.trod enc Try.prog W 0 (fun _ => true) true fuel 28 [c0, c1, c2, c3, c4, c5, c6] = some (d, p) := by simpa [Value.cells] using hf
  obtain ⟨m0, y0, h0⟩ := trod_field Try.underlying28 hf' 0 _ rfl cells_lcardC
  obtain ⟨m1, y1, h1⟩ := trod_field Try.underlying28 hf' 1 _ rfl cells_lpaperC
  obtain ⟨m2, y2, h2⟩ := trod_field Try.underlying28 hf' 2 _ rfl cells_intC
  obtain ⟨dn, f, A, c, ss, e0, e1, e2, hR, hm, hs⟩ := trod_cardC h0
  obtain ⟨K, X, H, e3, e4, e5⟩ := trod_paperC h1
  obtain ⟨O, e6, _, _⟩ := DataW.trod_int Try.underlying3 h2
  simp at e6
  subst e0 e1 e2 e3 e4 e5 e6
  exact ⟨dn, f, A, _, c, ss, K, X, H, O, rfl, hR, hm, hs⟩
end Go.Proofs.Ytdddglihomchfaa
namespace Go.Proofs.Ytdddglihomchfaa.fnExactOpenCopy
open Go.ChangeShapes Go.WideShapes Go.ChangeAt Go.RowKit Go.Joins Go.WideMaps Go.WideElems
open Go.ChangeMaps (open_string shut_string)
set_option linter.unusedVariables false
set_option maxRecDepth 100000 in
set_option maxHeartbeats 16000000 in
theorem walkOpenCopy (dC fC : Int) (AC : Option Addr) (nC cC : Nat) (ssC : List ByteArray) (K X H O : Int) (t : Int) (w : World) (hSC : Strs w w.heap.size AC nC ssC) (hnC : nC ≤ 1048576)  (hz1 : 0 ≤ szStrs ssC (1048576)) :
    Calls Try.prog 3 #[.agg #[.int .i64 dC, .int .i64 fC, .slice AC nC cC, .int .i64 K, .int .i64 X, .int .i64 H, .int .i64 O], .int .i64 t] w fun e w' => e = .returned (.bool true) ∧ Below w.heap.size w w' := by
  have hokC : OkS ssC 1048576 := (by have hlC := hSC.len; exact ⟨by omega, hSC.sb⟩)
  have hrok : OkS ssC 1048576 := by
    exact hokC
  have hspec := fun (W : World) (A_0C : Option Addr) (c_0C : Nat) (h_0C : Strs W W.heap.size A_0C ssC.length ssC) (hc_0C : ssC.length ≤ c_0C ∧ c_0C ≤ 9223372036854775807) => s_OpenCopy dC fC A_0C c_0C ssC K X H O t W h_0C
  have himpl := fun (W : World) (A_0C : Option Addr) (c_0C : Nat) (h_0C : Strs W W.heap.size A_0C ssC.length ssC) (hc_0C : ssC.length ≤ c_0C ∧ c_0C ≤ 9223372036854775807) => i_OpenCopy dC fC A_0C c_0C ssC K X H O t W h_0C
  generalize hgen0 : ((openRes dC fC ssC K X H O t).1) = Or at hspec himpl hrok
  generalize hgen1 : ((openRes dC fC ssC K X H O t).2) = rb at hspec himpl hrok
  clear hgen0 hgen1
  have HSPEC := hide hspec
  have HIMPL := hide himpl
  clear hspec himpl
  have HOKC := hide hokC
  clear hokC
  have HOKR := hide hrok
  clear hrok
  go_enter Try.func3, Try.ntmps3
  go_wp2_with fail
  have hk_aX_w1 := (blk_new_at w (.cells #[.int .i64 dC, .int .i64 fC, .slice AC nC cC, .int .i64 K, .int .i64 X, .int .i64 H, .int .i64 O] 28) (k := w.heap.size) (by simp))
  have hbw_w1 : Below w.heap.size w (w.alloc (.cells #[.int .i64 dC, .int .i64 fC, .slice AC nC cC, .int .i64 K, .int .i64 X, .int .i64 H, .int .i64 O] 28)) := bel
  have hsw_w1 := hbw_w1.size
  have hch_w1 : w.heap.size + 1 ≤ (w.alloc (.cells #[.int .i64 dC, .int .i64 fC, .slice AC nC cC, .int .i64 K, .int .i64 X, .int .i64 H, .int .i64 O] 28)).heap.size := (by simp; try omega)
  generalize (w.alloc (.cells #[.int .i64 dC, .int .i64 fC, .slice AC nC cC, .int .i64 K, .int .i64 X, .int .i64 H, .int .i64 O] 28)) = w1 at *
  refine (l_szCopy dC fC K X H O w.heap.size AC nC cC ssC (1048576) _ hsw_w1 (hSC.rd.below hbw_w1) (by omega) (fun s hs => by have := hSC.sb s hs; omega) (by omega) (by omega)).mono ?_
  rintro e w2 ⟨rfl, hb_w2⟩
  have hk_aX_w2 := blk_next hk_aX_w1 hb_w2
  have hbw_w2 : Below w.heap.size w w2 := hbw_w1.trans (Below.mono hb_w2 hsw_w1)
  have hsw_w2 := hbw_w2.size
  have hch_w2 : w1.heap.size ≤ w2.heap.size := hb_w2.size
  clear hk_aX_w1 hbw_w1 hsw_w1 hb_w2
  have hub_w2 : szStrs ssC (1048576) ≤ 1048576 := sz_ub _ _ (by omega)
  obtain ⟨hx0_aX, hx1_aX, hx2_aX, hx3_aX, hx4_aX, hx5_aX, hx6_aX, hxl_aX⟩ := blk7 hk_aX_w2
  go_wp2_with fail
  refine (u_toCopy dC fC K X H O w.heap.size AC nC cC ssC _ (hSC.below hbw_w2) hsw_w2).mono ?_
  rintro e w3 ⟨A_t1_0, c_t1_0, rfl, hon, hb_w3⟩
  clear hx0_aX hx1_aX hx2_aX hx3_aX hx4_aX hx5_aX hx6_aX hxl_aX
  have hk_aX_w3 := blk_next hk_aX_w2 hb_w3
  have hbw_w3 : Below w.heap.size w w3 := hbw_w2.trans (Below.mono hb_w3 hsw_w2)
  have hsw_w3 := hbw_w3.size
  have hch_w3 : w2.heap.size ≤ w3.heap.size := hb_w3.size
  clear hk_aX_w2 hbw_w2 hsw_w2 hb_w3
  have ho_t1_0_w3 := hon
  clear hon
  obtain ⟨hx0_aX, hx1_aX, hx2_aX, hx3_aX, hx4_aX, hx5_aX, hx6_aX, hxl_aX⟩ := blk7 hk_aX_w3
  go_wp2_with fail
  refine (unhide HSPEC _ _ _ (ho_t1_0_w3.rd ((unhide HOKC).more (by omega)).1 (unhide HOKC).2) (own_cap ho_t1_0_w3.row)).mono ?_
  rintro e w4 ⟨A_w0, c_w0, rfl, hon, hb_w4⟩
  clear ho_t1_0_w3
  clear hx0_aX hx1_aX hx2_aX hx3_aX hx4_aX hx5_aX hx6_aX hxl_aX
  have hk_aX_w4 := blk_next hk_aX_w3 hb_w4
  have hbw_w4 : Below w.heap.size w w4 := hbw_w3.trans (Below.mono hb_w4 hsw_w3)
  have hsw_w4 := hbw_w4.size
  have hch_w4 : w3.heap.size ≤ w4.heap.size := hb_w4.size
  clear hk_aX_w3 hbw_w3 hsw_w3 hb_w4
  have ho_w0_w4 := hon
  clear hon
  obtain ⟨hx0_aX, hx1_aX, hx2_aX, hx3_aX, hx4_aX, hx5_aX, hx6_aX, hxl_aX⟩ := blk7 hk_aX_w4
  go_wp2_with fail
  clear hx0_aX hx1_aX hx2_aX hx3_aX hx4_aX hx5_aX hx6_aX hxl_aX
  have hk_aX_w5 := (blk_alloc hk_aX_w4 (.cells #[.int .i64 dC, .int .i64 fC, .slice A_w0 ssC.length c_w0, .int .i64 K, .int .i64 X, .int .i64 H, .int .i64 Or] 33))
  have hk_w0_w5 := (blk_new_at w4 (.cells #[.int .i64 dC, .int .i64 fC, .slice A_w0 ssC.length c_w0, .int .i64 K, .int .i64 X, .int .i64 H, .int .i64 Or] 33) (k := w4.heap.size) (by simp))
  have ho_w0_w5 := (ho_w0_w4.alloc (.cells #[.int .i64 dC, .int .i64 fC, .slice A_w0 ssC.length c_w0, .int .i64 K, .int .i64 X, .int .i64 H, .int .i64 Or] 33))
  have hbw_w5 : Below w.heap.size w (w4.alloc (.cells #[.int .i64 dC, .int .i64 fC, .slice A_w0 ssC.length c_w0, .int .i64 K, .int .i64 X, .int .i64 H, .int .i64 Or] 33)) := bel
  have hsw_w5 := hbw_w5.size
  have hch_w5 : w4.heap.size + 1 ≤ (w4.alloc (.cells #[.int .i64 dC, .int .i64 fC, .slice A_w0 ssC.length c_w0, .int .i64 K, .int .i64 X, .int .i64 H, .int .i64 Or] 33)).heap.size := (by simp; try omega)
  generalize (w4.alloc (.cells #[.int .i64 dC, .int .i64 fC, .slice A_w0 ssC.length c_w0, .int .i64 K, .int .i64 X, .int .i64 H, .int .i64 Or] 33)) = w5 at *
  clear hk_aX_w4 ho_w0_w4 hbw_w4 hsw_w4
  refine (u_toCopy dC fC K X H O w.heap.size AC nC cC ssC _ (hSC.below hbw_w5) hsw_w5).mono ?_
  rintro e w6 ⟨A_x0, c_x0, rfl, hon, hb_w6⟩
  have hk_aX_w6 := blk_next hk_aX_w5 hb_w6
  have hk_w0_w6 := blk_next hk_w0_w5 hb_w6
  have ho_w0_w6 := ho_w0_w5.below hb_w6
  have hbw_w6 : Below w.heap.size w w6 := hbw_w5.trans (Below.mono hb_w6 hsw_w5)
  have hsw_w6 := hbw_w6.size
  have hch_w6 : w5.heap.size ≤ w6.heap.size := hb_w6.size
  clear hk_aX_w5 hk_w0_w5 ho_w0_w5 hbw_w5 hsw_w5 hb_w6
  have ho_x0_w6 := hon
  clear hon
  go_wp2_with fail
  have hk_aX_w7 := (blk_alloc hk_aX_w6 (.cells #[.int .i64 dC, .int .i64 fC, .slice A_x0 ssC.length c_x0, .int .i64 K, .int .i64 X, .int .i64 H, .int .i64 O] 33))
  have hk_w0_w7 := (blk_alloc hk_w0_w6 (.cells #[.int .i64 dC, .int .i64 fC, .slice A_x0 ssC.length c_x0, .int .i64 K, .int .i64 X, .int .i64 H, .int .i64 O] 33))
  have hk_x0_w7 := (blk_new_at w6 (.cells #[.int .i64 dC, .int .i64 fC, .slice A_x0 ssC.length c_x0, .int .i64 K, .int .i64 X, .int .i64 H, .int .i64 O] 33) (k := w6.heap.size) (by simp))
  have ho_w0_w7 := (ho_w0_w6.alloc (.cells #[.int .i64 dC, .int .i64 fC, .slice A_x0 ssC.length c_x0, .int .i64 K, .int .i64 X, .int .i64 H, .int .i64 O] 33))
  have ho_x0_w7 := (ho_x0_w6.alloc (.cells #[.int .i64 dC, .int .i64 fC, .slice A_x0 ssC.length c_x0, .int .i64 K, .int .i64 X, .int .i64 H, .int .i64 O] 33))
  have hbw_w7 : Below w.heap.size w (w6.alloc (.cells #[.int .i64 dC, .int .i64 fC, .slice A_x0 ssC.length c_x0, .int .i64 K, .int .i64 X, .int .i64 H, .int .i64 O] 33)) := bel
  have hsw_w7 := hbw_w7.size
  have hch_w7 : w6.heap.size + 1 ≤ (w6.alloc (.cells #[.int .i64 dC, .int .i64 fC, .slice A_x0 ssC.length c_x0, .int .i64 K, .int .i64 X, .int .i64 H, .int .i64 O] 33)).heap.size := (by simp; try omega)
  generalize (w6.alloc (.cells #[.int .i64 dC, .int .i64 fC, .slice A_x0 ssC.length c_x0, .int .i64 K, .int .i64 X, .int .i64 H, .int .i64 O] 33)) = w7 at *
  clear hk_aX_w6 hk_w0_w6 ho_w0_w6 ho_x0_w6 hbw_w6 hsw_w6
  refine (unhide HIMPL _ _ _ (ho_x0_w7.rd ((unhide HOKC).more (by omega)).1 (unhide HOKC).2) (own_cap ho_x0_w7.row)).mono ?_
  rintro e w8 ⟨A_g0, c_g0, rfl, hon, hb_w8⟩
  have hk_aX_w8 := blk_next hk_aX_w7 hb_w8
  have hk_w0_w8 := blk_next hk_w0_w7 hb_w8
  have hk_x0_w8 := blk_next hk_x0_w7 hb_w8
  have ho_w0_w8 := ho_w0_w7.below hb_w8
  have ho_x0_w8 := ho_x0_w7.below hb_w8
  have hbw_w8 : Below w.heap.size w w8 := hbw_w7.trans (Below.mono hb_w8 hsw_w7)
  have hsw_w8 := hbw_w8.size
  have hch_w8 : w7.heap.size ≤ w8.heap.size := hb_w8.size
  clear hk_aX_w7 hk_w0_w7 hk_x0_w7 ho_w0_w7 ho_x0_w7 hbw_w7 hsw_w7 hb_w8
  have ho_g0_w8 := hon
  clear hon
  obtain ⟨hx0_w0, hx1_w0, hx2_w0, hx3_w0, hx4_w0, hx5_w0, hx6_w0, hxl_w0⟩ := blk7 hk_w0_w8
  go_wp2_with fail
  clear hx0_w0 hx1_w0 hx2_w0 hx3_w0 hx4_w0 hx5_w0 hx6_w0 hxl_w0
  have hk_aX_w9 := (blk_alloc hk_aX_w8 (.cells #[.int .i64 dC, .int .i64 fC, .slice A_g0 ssC.length c_g0, .int .i64 K, .int .i64 X, .int .i64 H, .int .i64 Or] 33))
  have hk_w0_w9 := (blk_alloc hk_w0_w8 (.cells #[.int .i64 dC, .int .i64 fC, .slice A_g0 ssC.length c_g0, .int .i64 K, .int .i64 X, .int .i64 H, .int .i64 Or] 33))
  have hk_x0_w9 := (blk_alloc hk_x0_w8 (.cells #[.int .i64 dC, .int .i64 fC, .slice A_g0 ssC.length c_g0, .int .i64 K, .int .i64 X, .int .i64 H, .int .i64 Or] 33))
  have hk_g0_w9 := (blk_new_at w8 (.cells #[.int .i64 dC, .int .i64 fC, .slice A_g0 ssC.length c_g0, .int .i64 K, .int .i64 X, .int .i64 H, .int .i64 Or] 33) (k := w8.heap.size) (by simp))
  have ho_w0_w9 := (ho_w0_w8.alloc (.cells #[.int .i64 dC, .int .i64 fC, .slice A_g0 ssC.length c_g0, .int .i64 K, .int .i64 X, .int .i64 H, .int .i64 Or] 33))
  have ho_x0_w9 := (ho_x0_w8.alloc (.cells #[.int .i64 dC, .int .i64 fC, .slice A_g0 ssC.length c_g0, .int .i64 K, .int .i64 X, .int .i64 H, .int .i64 Or] 33))
  have ho_g0_w9 := (ho_g0_w8.alloc (.cells #[.int .i64 dC, .int .i64 fC, .slice A_g0 ssC.length c_g0, .int .i64 K, .int .i64 X, .int .i64 H, .int .i64 Or] 33))
  have hbw_w9 : Below w.heap.size w (w8.alloc (.cells #[.int .i64 dC, .int .i64 fC, .slice A_g0 ssC.length c_g0, .int .i64 K, .int .i64 X, .int .i64 H, .int .i64 Or] 33)) := bel
  have hsw_w9 := hbw_w9.size
  have hch_w9 : w8.heap.size + 1 ≤ (w8.alloc (.cells #[.int .i64 dC, .int .i64 fC, .slice A_g0 ssC.length c_g0, .int .i64 K, .int .i64 X, .int .i64 H, .int .i64 Or] 33)).heap.size := (by simp; try omega)
  generalize (w8.alloc (.cells #[.int .i64 dC, .int .i64 fC, .slice A_g0 ssC.length c_g0, .int .i64 K, .int .i64 X, .int .i64 H, .int .i64 Or] 33)) = w9 at *
  clear hk_aX_w8 hk_w0_w8 hk_x0_w8 ho_w0_w8 ho_x0_w8 ho_g0_w8 hbw_w8 hsw_w8
  refine (u_eqCopy dC fC K X H Or _ _ _ _ ssC _ _ _ _ _ ho_g0_w9 ho_w0_w9 ((unhide HOKR).more (by omega))).mono ?_
  rintro e w10 ⟨rfl, hb_w10⟩
  have hk_aX_w10 := blk_next hk_aX_w9 hb_w10
  have hk_w0_w10 := blk_next hk_w0_w9 hb_w10
  have hk_x0_w10 := blk_next hk_x0_w9 hb_w10
  have hk_g0_w10 := blk_next hk_g0_w9 hb_w10
  have ho_w0_w10 := ho_w0_w9.below hb_w10
  have ho_x0_w10 := ho_x0_w9.below hb_w10
  have ho_g0_w10 := ho_g0_w9.below hb_w10
  have hbw_w10 : Below w.heap.size w w10 := hbw_w9.trans (Below.mono hb_w10 hsw_w9)
  have hsw_w10 := hbw_w10.size
  have hch_w10 : w9.heap.size ≤ w10.heap.size := hb_w10.size
  clear hk_aX_w9 hk_w0_w9 hk_x0_w9 hk_g0_w9 ho_w0_w9 ho_x0_w9 ho_g0_w9 hbw_w9 hsw_w9 hb_w10
  obtain ⟨hx0_aX, hx1_aX, hx2_aX, hx3_aX, hx4_aX, hx5_aX, hx6_aX, hxl_aX⟩ := blk7 hk_aX_w10
  obtain ⟨hx0_x0, hx1_x0, hx2_x0, hx3_x0, hx4_x0, hx5_x0, hx6_x0, hxl_x0⟩ := blk7 hk_x0_w10
  go_wp2_with fail
  have hS_c := hSC.below hbw_w10
  go_region_held3 (fun W => (∀ b o, b < w10.heap.size → W.cell? ⟨b, o, none⟩ = (w10).cell? ⟨b, o, none⟩) ∧ (∀ b o, b < w10.heap.size → W.frozen? ⟨b, o, none⟩ = (w10).frozen? ⟨b, o, none⟩) ∧ Below (w10.heap.size) (w10) W) (exact keep_of bel) (first | (go_at_call 8; have hq := (‹_ ∧ _ ∧ Below _ _ _›).2.2; refine (u_toCopy dC fC K X H O w.heap.size AC nC cC ssC _ ?_ ?_).mono ?_; exact hS_c.below (hq.mono hsw_w10); exact Nat.le_trans hsw_w10 hq.size; rintro e wa_w11 ⟨A_aw11, c_aw11, rfl, hoa, hba⟩) | (go_at_call 10; have hq2 := (‹_ ∧ _ ∧ Below _ _ _›).2.2; (first | refine (u_eqCopy dC fC K X H O _ _ _ _ ssC _ _ _ _ _ (ho_x0_w10.below hq2) hoa ((unhide HOKC).more (by omega))).mono ?_ | refine (u_eqCopy dC fC K X H O _ _ _ _ ssC _ _ _ _ _ (ho_x0_w10.below hq2) hoa.drew ((unhide HOKC).more (by omega))).mono ?_); rintro e w11 ⟨rfl, hbz⟩))
  have hb67 : Below w10.heap.size w10 wa_w11 := (Below.refl _ _).drew.trans hba
  have hz7 : w10.heap.size ≤ wa_w11.heap.size := hba.size
  have hb68 : Below w10.heap.size w10 w11 := hb67.trans (hbz.mono hz7)
  clear hS_c hoa hba hbz hb67 hz7
  clear hx0_aX hx1_aX hx2_aX hx3_aX hx4_aX hx5_aX hx6_aX hxl_aX hx0_x0 hx1_x0 hx2_x0 hx3_x0 hx4_x0 hx5_x0 hx6_x0 hxl_x0
  have hk_aX_w11 := blk_next hk_aX_w10 hb68
  have hk_w0_w11 := blk_next hk_w0_w10 hb68
  have hk_x0_w11 := blk_next hk_x0_w10 hb68
  have hk_g0_w11 := blk_next hk_g0_w10 hb68
  have ho_w0_w11 := ho_w0_w10.below hb68
  have ho_x0_w11 := ho_x0_w10.below hb68
  have ho_g0_w11 := ho_g0_w10.below hb68
  have hbw_w11 : Below w.heap.size w w11 := hbw_w10.trans (Below.mono hb68 hsw_w10)
  have hsw_w11 := hbw_w11.size
  have hch_w11 : w10.heap.size ≤ w11.heap.size := hb68.size
  clear hk_aX_w10 hk_w0_w10 hk_x0_w10 hk_g0_w10 ho_w0_w10 ho_x0_w10 ho_g0_w10 hbw_w10 hsw_w10 hb68
  obtain ⟨hx0_x0, hx1_x0, hx2_x0, hx3_x0, hx4_x0, hx5_x0, hx6_x0, hxl_x0⟩ := blk7 hk_x0_w11
  go_wp2_with fail
  refine (u_markCopy dC fC K X H O _ _ ssC _ _ (1) _ ho_x0_w11 (by have hq1_HOKC := (unhide HOKC).1; omega) (by have hq1_HOKC := (unhide HOKC).1; omega) (by have hq1_HOKC := (unhide HOKC).1; omega)).mono ?_
  rintro e w12 ⟨rfl, hm_w12, hW_w12⟩
  clear hm_w12
  clear hx0_x0 hx1_x0 hx2_x0 hx3_x0 hx4_x0 hx5_x0 hx6_x0 hxl_x0
  have hk_aX_w12 := hW_w12.box hk_aX_w11
  have hk_w0_w12 := hW_w12.box hk_w0_w11
  have hk_x0_w12 := hW_w12.box hk_x0_w11
  have hk_g0_w12 := hW_w12.box hk_g0_w11
  have ho_w0_w12 := ho_w0_w11.within hW_w12 (by omega)
  have ho_g0_w12 := ho_g0_w11.within hW_w12 (by omega)
  have hbw_w12 : Below w.heap.size w w12 := hbw_w11.trans (hW_w12.below (by omega) (by omega))
  have hsw_w12 := hbw_w12.size
  have hch_w12 : w11.heap.size ≤ w12.heap.size := hW_w12.size
  clear hk_aX_w11 hk_w0_w11 hk_x0_w11 hk_g0_w11 ho_w0_w11 ho_x0_w11 ho_g0_w11 hbw_w11 hsw_w11 hW_w12
  obtain ⟨hx0_w0, hx1_w0, hx2_w0, hx3_w0, hx4_w0, hx5_w0, hx6_w0, hxl_w0⟩ := blk7 hk_w0_w12
  obtain ⟨hx0_g0, hx1_g0, hx2_g0, hx3_g0, hx4_g0, hx5_g0, hx6_g0, hxl_g0⟩ := blk7 hk_g0_w12
  go_wp2_with fail
  refine (u_eqCopy dC fC K X H Or _ _ _ _ ssC _ _ _ _ _ ho_g0_w12 ho_w0_w12 ((unhide HOKR).more (by omega))).mono ?_
  rintro e w13 ⟨rfl, hb_w13⟩
  clear hx0_w0 hx1_w0 hx2_w0 hx3_w0 hx4_w0 hx5_w0 hx6_w0 hxl_w0 hx0_g0 hx1_g0 hx2_g0 hx3_g0 hx4_g0 hx5_g0 hx6_g0 hxl_g0
  have hk_aX_w13 := blk_next hk_aX_w12 hb_w13
  have hk_w0_w13 := blk_next hk_w0_w12 hb_w13
  have hk_x0_w13 := blk_next hk_x0_w12 hb_w13
  have hk_g0_w13 := blk_next hk_g0_w12 hb_w13
  have ho_w0_w13 := ho_w0_w12.below hb_w13
  have ho_g0_w13 := ho_g0_w12.below hb_w13
  have hbw_w13 : Below w.heap.size w w13 := hbw_w12.trans (Below.mono hb_w13 hsw_w12)
  have hsw_w13 := hbw_w13.size
  have hch_w13 : w12.heap.size ≤ w13.heap.size := hb_w13.size
  clear hk_aX_w12 hk_w0_w12 hk_x0_w12 hk_g0_w12 ho_w0_w12 ho_g0_w12 hbw_w12 hsw_w12 hb_w13
  obtain ⟨hx0_g0, hx1_g0, hx2_g0, hx3_g0, hx4_g0, hx5_g0, hx6_g0, hxl_g0⟩ := blk7 hk_g0_w13
  go_wp2_with fail
  refine (u_markCopy dC fC K X H Or _ _ ssC _ _ (1) _ ho_g0_w13 (by have hq1_HOKC := (unhide HOKC).1; have hq1_HOKR := (unhide HOKR).1; omega) (by have hq1_HOKC := (unhide HOKC).1; have hq1_HOKR := (unhide HOKR).1; omega) (by have hq1_HOKC := (unhide HOKC).1; have hq1_HOKR := (unhide HOKR).1; omega)).mono ?_
  rintro e w14 ⟨rfl, hm_w14, hW_w14⟩
  clear hx0_g0 hx1_g0 hx2_g0 hx3_g0 hx4_g0 hx5_g0 hx6_g0 hxl_g0
  have hk_aX_w14 := hW_w14.box hk_aX_w13
  have hk_w0_w14 := hW_w14.box hk_w0_w13
  have hk_x0_w14 := hW_w14.box hk_x0_w13
  have hk_g0_w14 := hW_w14.box hk_g0_w13
  have ho_w0_w14 := ho_w0_w13.within hW_w14 (by omega)
  have hbw_w14 : Below w.heap.size w w14 := hbw_w13.trans (hW_w14.below (by omega) (by omega))
  have hsw_w14 := hbw_w14.size
  have hch_w14 : w13.heap.size ≤ w14.heap.size := hW_w14.size
  clear hk_aX_w13 hk_w0_w13 hk_x0_w13 hk_g0_w13 ho_w0_w13 ho_g0_w13 hbw_w13 hsw_w13 hW_w14
  have ho_g0_w14 := hm_w14
  clear hm_w14
  obtain ⟨hx0_g0, hx1_g0, hx2_g0, hx3_g0, hx4_g0, hx5_g0, hx6_g0, hxl_g0⟩ := blk7 hk_g0_w14
  go_wp2_with fail
  refine (u_heldCopy dC fC K X H Or _ _ _ _ _ (1) _ ho_g0_w14 (by have hq1_HOKR := (unhide HOKR).1; omega) (by have hq1_HOKR := (unhide HOKR).1; omega) (by have hq1_HOKR := (unhide HOKR).1; omega)).mono ?_
  rintro e w15 ⟨rfl, hb_w15⟩
  clear hx0_g0 hx1_g0 hx2_g0 hx3_g0 hx4_g0 hx5_g0 hx6_g0 hxl_g0
  have hk_aX_w15 := blk_next hk_aX_w14 hb_w15
  have hk_w0_w15 := blk_next hk_w0_w14 hb_w15
  have hk_x0_w15 := blk_next hk_x0_w14 hb_w15
  have hk_g0_w15 := blk_next hk_g0_w14 hb_w15
  have ho_w0_w15 := ho_w0_w14.below hb_w15
  have ho_g0_w15 := ho_g0_w14.below hb_w15
  have hbw_w15 : Below w.heap.size w w15 := hbw_w14.trans (Below.mono hb_w15 hsw_w14)
  have hsw_w15 := hbw_w15.size
  have hch_w15 : w14.heap.size ≤ w15.heap.size := hb_w15.size
  clear hk_aX_w14 hk_w0_w14 hk_x0_w14 hk_g0_w14 ho_w0_w14 ho_g0_w14 hbw_w14 hsw_w14 hb_w15
  obtain ⟨hx0_aX, hx1_aX, hx2_aX, hx3_aX, hx4_aX, hx5_aX, hx6_aX, hxl_aX⟩ := blk7 hk_aX_w15
  go_wp2_with fail
  refine (u_toCopy dC fC K X H O w.heap.size AC nC cC ssC _ (hSC.below hbw_w15) hsw_w15).mono ?_
  rintro e w16 ⟨A_t3_0, c_t3_0, rfl, hon, hb_w16⟩
  clear hx0_aX hx1_aX hx2_aX hx3_aX hx4_aX hx5_aX hx6_aX hxl_aX
  have hk_aX_w16 := blk_next hk_aX_w15 hb_w16
  have hk_w0_w16 := blk_next hk_w0_w15 hb_w16
  have hk_x0_w16 := blk_next hk_x0_w15 hb_w16
  have hk_g0_w16 := blk_next hk_g0_w15 hb_w16
  have ho_w0_w16 := ho_w0_w15.below hb_w16
  have ho_g0_w16 := ho_g0_w15.below hb_w16
  have hbw_w16 : Below w.heap.size w w16 := hbw_w15.trans (Below.mono hb_w16 hsw_w15)
  have hsw_w16 := hbw_w16.size
  have hch_w16 : w15.heap.size ≤ w16.heap.size := hb_w16.size
  clear hk_aX_w15 hk_w0_w15 hk_x0_w15 hk_g0_w15 ho_w0_w15 ho_g0_w15 hbw_w15 hsw_w15 hb_w16
  have ho_t3_0_w16 := hon
  clear hon
  obtain ⟨hx0_aX, hx1_aX, hx2_aX, hx3_aX, hx4_aX, hx5_aX, hx6_aX, hxl_aX⟩ := blk7 hk_aX_w16
  go_wp2_with fail
  refine (unhide HIMPL _ _ _ (ho_t3_0_w16.rd ((unhide HOKC).more (by omega)).1 (unhide HOKC).2) (own_cap ho_t3_0_w16.row)).mono ?_
  rintro e w17 ⟨A_h0, c_h0, rfl, hon, hb_w17⟩
  clear ho_t3_0_w16
  clear hx0_aX hx1_aX hx2_aX hx3_aX hx4_aX hx5_aX hx6_aX hxl_aX
  have hk_aX_w17 := blk_next hk_aX_w16 hb_w17
  have hk_w0_w17 := blk_next hk_w0_w16 hb_w17
  have hk_x0_w17 := blk_next hk_x0_w16 hb_w17
  have hk_g0_w17 := blk_next hk_g0_w16 hb_w17
  have ho_w0_w17 := ho_w0_w16.below hb_w17
  have ho_g0_w17 := ho_g0_w16.below hb_w17
  have hbw_w17 : Below w.heap.size w w17 := hbw_w16.trans (Below.mono hb_w17 hsw_w16)
  have hsw_w17 := hbw_w17.size
  have hch_w17 : w16.heap.size ≤ w17.heap.size := hb_w17.size
  clear hk_aX_w16 hk_w0_w16 hk_x0_w16 hk_g0_w16 ho_w0_w16 ho_g0_w16 hbw_w16 hsw_w16 hb_w17
  have ho_h0_w17 := hon
  clear hon
  obtain ⟨hx0_w0, hx1_w0, hx2_w0, hx3_w0, hx4_w0, hx5_w0, hx6_w0, hxl_w0⟩ := blk7 hk_w0_w17
  go_wp2_with fail
  clear hx0_w0 hx1_w0 hx2_w0 hx3_w0 hx4_w0 hx5_w0 hx6_w0 hxl_w0
  have hk_aX_w18 := (blk_alloc hk_aX_w17 (.cells #[.int .i64 dC, .int .i64 fC, .slice A_h0 ssC.length c_h0, .int .i64 K, .int .i64 X, .int .i64 H, .int .i64 Or] 33))
  have hk_w0_w18 := (blk_alloc hk_w0_w17 (.cells #[.int .i64 dC, .int .i64 fC, .slice A_h0 ssC.length c_h0, .int .i64 K, .int .i64 X, .int .i64 H, .int .i64 Or] 33))
  have hk_x0_w18 := (blk_alloc hk_x0_w17 (.cells #[.int .i64 dC, .int .i64 fC, .slice A_h0 ssC.length c_h0, .int .i64 K, .int .i64 X, .int .i64 H, .int .i64 Or] 33))
  have hk_g0_w18 := (blk_alloc hk_g0_w17 (.cells #[.int .i64 dC, .int .i64 fC, .slice A_h0 ssC.length c_h0, .int .i64 K, .int .i64 X, .int .i64 H, .int .i64 Or] 33))
  have hk_h0_w18 := (blk_new_at w17 (.cells #[.int .i64 dC, .int .i64 fC, .slice A_h0 ssC.length c_h0, .int .i64 K, .int .i64 X, .int .i64 H, .int .i64 Or] 33) (k := w17.heap.size) (by simp))
  have ho_w0_w18 := (ho_w0_w17.alloc (.cells #[.int .i64 dC, .int .i64 fC, .slice A_h0 ssC.length c_h0, .int .i64 K, .int .i64 X, .int .i64 H, .int .i64 Or] 33))
  have ho_g0_w18 := (ho_g0_w17.alloc (.cells #[.int .i64 dC, .int .i64 fC, .slice A_h0 ssC.length c_h0, .int .i64 K, .int .i64 X, .int .i64 H, .int .i64 Or] 33))
  have ho_h0_w18 := (ho_h0_w17.alloc (.cells #[.int .i64 dC, .int .i64 fC, .slice A_h0 ssC.length c_h0, .int .i64 K, .int .i64 X, .int .i64 H, .int .i64 Or] 33))
  have hbw_w18 : Below w.heap.size w (w17.alloc (.cells #[.int .i64 dC, .int .i64 fC, .slice A_h0 ssC.length c_h0, .int .i64 K, .int .i64 X, .int .i64 H, .int .i64 Or] 33)) := bel
  have hsw_w18 := hbw_w18.size
  have hch_w18 : w17.heap.size + 1 ≤ (w17.alloc (.cells #[.int .i64 dC, .int .i64 fC, .slice A_h0 ssC.length c_h0, .int .i64 K, .int .i64 X, .int .i64 H, .int .i64 Or] 33)).heap.size := (by simp; try omega)
  generalize (w17.alloc (.cells #[.int .i64 dC, .int .i64 fC, .slice A_h0 ssC.length c_h0, .int .i64 K, .int .i64 X, .int .i64 H, .int .i64 Or] 33)) = w18 at *
  clear hk_aX_w17 hk_w0_w17 hk_x0_w17 hk_g0_w17 ho_w0_w17 ho_g0_w17 ho_h0_w17 hbw_w17 hsw_w17
  refine (u_eqCopy dC fC K X H Or _ _ _ _ ssC _ _ _ _ _ ho_h0_w18 ho_w0_w18 ((unhide HOKR).more (by omega))).mono ?_
  rintro e w19 ⟨rfl, hb_w19⟩
  have hk_aX_w19 := blk_next hk_aX_w18 hb_w19
  have hk_w0_w19 := blk_next hk_w0_w18 hb_w19
  have hk_x0_w19 := blk_next hk_x0_w18 hb_w19
  have hk_g0_w19 := blk_next hk_g0_w18 hb_w19
  have hk_h0_w19 := blk_next hk_h0_w18 hb_w19
  have ho_w0_w19 := ho_w0_w18.below hb_w19
  have ho_g0_w19 := ho_g0_w18.below hb_w19
  have ho_h0_w19 := ho_h0_w18.below hb_w19
  have hbw_w19 : Below w.heap.size w w19 := hbw_w18.trans (Below.mono hb_w19 hsw_w18)
  have hsw_w19 := hbw_w19.size
  have hch_w19 : w18.heap.size ≤ w19.heap.size := hb_w19.size
  clear hk_aX_w18 hk_w0_w18 hk_x0_w18 hk_g0_w18 hk_h0_w18 ho_w0_w18 ho_g0_w18 ho_h0_w18 hbw_w18 hsw_w18 hb_w19
  obtain ⟨hx0_g0, hx1_g0, hx2_g0, hx3_g0, hx4_g0, hx5_g0, hx6_g0, hxl_g0⟩ := blk7 hk_g0_w19
  go_wp2_with fail
  refine (u_heldCopy dC fC K X H Or _ _ _ _ _ (1) _ ho_g0_w19 (by have hq1_HOKR := (unhide HOKR).1; omega) (by have hq1_HOKR := (unhide HOKR).1; omega) (by have hq1_HOKR := (unhide HOKR).1; omega)).mono ?_
  rintro e w20 ⟨rfl, hb_w20⟩
  clear hx0_g0 hx1_g0 hx2_g0 hx3_g0 hx4_g0 hx5_g0 hx6_g0 hxl_g0
  have hk_aX_w20 := blk_next hk_aX_w19 hb_w20
  have hk_w0_w20 := blk_next hk_w0_w19 hb_w20
  have hk_x0_w20 := blk_next hk_x0_w19 hb_w20
  have hk_g0_w20 := blk_next hk_g0_w19 hb_w20
  have hk_h0_w20 := blk_next hk_h0_w19 hb_w20
  have ho_w0_w20 := ho_w0_w19.below hb_w20
  have ho_g0_w20 := ho_g0_w19.below hb_w20
  have ho_h0_w20 := ho_h0_w19.below hb_w20
  have hbw_w20 : Below w.heap.size w w20 := hbw_w19.trans (Below.mono hb_w20 hsw_w19)
  have hsw_w20 := hbw_w20.size
  have hch_w20 : w19.heap.size ≤ w20.heap.size := hb_w20.size
  clear hk_aX_w19 hk_w0_w19 hk_x0_w19 hk_g0_w19 hk_h0_w19 ho_w0_w19 ho_g0_w19 ho_h0_w19 hbw_w19 hsw_w19 hb_w20
  go_wp2
  go_ret
  exact ⟨rfl, hbw_w20⟩
end Go.Proofs.Ytdddglihomchfaa.fnExactOpenCopy
namespace Go.Proofs.Ytdddglihomchfaa.fnExactOpenCopy
open Go.ChangeShapes Go.WideShapes Go.ChangeAt Go.RowKit Go.Joins Go.WideMaps Go.WideElems
open Go.ChangeMaps (open_string shut_string)
set_option linter.unusedVariables false
set_option maxRecDepth 100000 in
set_option maxHeartbeats 1600000 in
theorem bigOpenCopy_1 (dC fC : Int) (AC : Option Addr) (nC cC : Nat) (ssC : List ByteArray) (K X H O : Int) (t : Int) (w : World) (hRC : Reads w w.heap.size 1 AC nC (ssC.map Value.string)) (hmC : nC ≤ maxLen) (hbC : ∀ s ∈ ssC, s.size ≤ maxLen)  (hz : szStrs ssC (1048576) < 0) :
    Calls Try.prog 3 #[.agg #[.int .i64 dC, .int .i64 fC, .slice AC nC cC, .int .i64 K, .int .i64 X, .int .i64 H, .int .i64 O], .int .i64 t] w fun e w' => e = .returned (.bool true) ∧ Below w.heap.size w w' := by
  unfold maxLen at hmC hbC
  go_enter Try.func3, Try.ntmps3
  go_wp2_with fail
  refine (l_szCopy dC fC K X H O w.heap.size AC nC cC ssC (1048576) _ (by simp; try omega) (hRC.below (by first | exact Below.refl _ _ | exact bel)) (by omega) (fun s h => by have := hbC s h; omega) (by omega) (by omega)).mono ?_
  rintro e w1 ⟨rfl, hb_w1⟩
  have hbelow_1 : Below w.heap.size w w1 := bel
  obtain ⟨hcb_1, hfb_1⟩ := bcell hb_w1
  have hz_w1_0 : w.heap.size < w1.heap.size := (by have hzz := hb_w1.size; (try simp at hzz); omega); have hy_w1_0 := Nat.le_of_lt hz_w1_0
  go_wp2
  go_ret
  exact ⟨rfl, bel⟩
set_option maxRecDepth 100000 in
theorem lifted (os : Os) (started : os.Started) (H : Type) (enc : TypeId × Value → H) :
    ReturnsInHanded {} Try.checked os 3 .any (Rows.fnExactOpenCopySpec.pre6 enc Try.prog Try.f3 Rows.fnExactOpenCopyRow.domain false) (Rows.fnExactOpenCopySpec.post enc Try.prog Try.f3 false true false false) := by
  refine returnsInHanded_of_change_shaped (C := Try.checked) own0 started (by kernel_rfl) Try.func3
    (ChangeSpec.witness6 (enc := enc) (C := Try.checked) false ⟨#[], #[.agg #[.int .i64 0, .int .i64 0, .slice none 0 0, .int .i64 0, .int .i64 0, .int .i64 0, .int .i64 0], .int .i64 0], []⟩ 8 (by kernel_rfl) (by kernel_rfl) (by kernel_rfl) (by kernel_rfl)) ?_
  intro W base args ds gs before hval0 hW hcnd _ hsh _
  have hval : ∀ (j : Nat) t v, Try.f3.params[j]? = some t → args[j]? = some v → Value.okWide Try.prog W .any base t v := hval0
  have hW' := hW
  obtain ⟨p, q, hA0, hV, _, hfz, hnd⟩ := hW
  have hA : DataW.TrodAll enc Try.prog W 0 (fun _ => true) true Try.f3.params.toList args.toList ds p := hA0
  rw [Try.params3] at hA hval
  obtain ⟨v0, vs0, d0, ds0, p0, q0, hargs, hds, _, h0, r0⟩ := trodAll_cons hA
  obtain ⟨v1, vs1, d1, ds1, p1, q1, rfl, rfl, _, h1, r1⟩ := trodAll_cons r0
  obtain ⟨rfl, rfl, _⟩ := trodAll_nil r1
  obtain rfl : args = #[v0, v1] := by cases args; simp_all
  have fin : Calls Try.prog 3 #[v0, v1] W fun e w' => e = .returned (.bool true) ∧ Below W.heap.size W w' := by
    obtain ⟨dC, fC, AC, nC, cC, ssC, K, X, H, O, rfl, hRC, hmC, hbC⟩ := open_copy (hval 0 28 v0 rfl rfl) h0
    obtain ⟨t, rfl, _, hwf_t, _⟩ := open_int Try.underlying3 (hval 1 3 v1 rfl rfl) h1
    by_cases hz1 : szStrs ssC (1048576) < 0
    case pos => exact bigOpenCopy_1 dC fC AC nC cC ssC K X H O t W hRC hmC hbC   hz1
    have hz1' : 0 ≤ szStrs ssC (1048576) := by omega
    have hub1 : szStrs ssC (1048576) ≤ 1048576 := sz_ub _ _ (by omega)
    obtain ⟨hSC, hnC⟩ := strs_of_szl hRC (by omega) hz1'
    exact walkOpenCopy dC fC AC nC cC ssC K X H O t W hSC hnC hz1'
  refine fin.mono fun e W' ⟨he, hb⟩ => ?_
  subst he
  exact ⟨_, rfl, post_law hW' rfl (by rw [Try.params3]; intro t ht; simp at ht; first | (rcases ht with rfl | rfl | rfl | rfl <;> exact ⟨by kernel_rfl, of_decide_eq_true (by kernel_rfl)⟩) | (rcases ht with rfl | rfl | rfl <;> exact ⟨by kernel_rfl, of_decide_eq_true (by kernel_rfl)⟩) | (rcases ht with rfl | rfl <;> exact ⟨by kernel_rfl, of_decide_eq_true (by kernel_rfl)⟩) | (subst ht; exact ⟨by kernel_rfl, of_decide_eq_true (by kernel_rfl)⟩)) rfl (by
    intro _; subst hds; rfl) hb⟩
end Go.Proofs.Ytdddglihomchfaa.fnExactOpenCopy
