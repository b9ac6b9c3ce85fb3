/- The contracts of OpenCopy of both packages. -/
import Derived.Test.YtdddglihomchfaaWear2
import Derived.Test.YtdddglihomchfaaUCard
import Derived.Test.YtdddglihomchfaaLawKit2
import Derived.Deep.RegionHeld3
import Derived.Deep.DeepCutAuto
namespace Go.Proofs.Ytdddglihomchfaa
open Go.ChangeShapes Go.WideShapes Go.ChangeAt Go.RowKit
set_option linter.unusedVariables false
set_option linter.unusedSimpArgs false
set_option maxRecDepth 10000

def openRes (d f : Int) (ss : List ByteArray) (K W H O t : Int) : Int × Bool := if copyOk d f ss K W H O && inB t 0 (leftOf d f ss K W H O) then (O + t, true) else (O, false)
theorem openRes_no1 {d f : Int} {ss : List ByteArray} {K W H O t : Int} (h : copyOk d f ss K W H O = false) : openRes d f ss K W H O t = (O, false) := by unfold openRes; rw [h]; rfl
theorem openRes_no2 {d f : Int} {ss : List ByteArray} {K W H O t : Int} (h : inB t 0 (leftOf d f ss K W H O) = false) : openRes d f ss K W H O t = (O, false) := by unfold openRes; rw [h, Bool.and_false]; rfl
theorem openRes_yes {d f : Int} {ss : List ByteArray} {K W H O t : Int} (h : copyOk d f ss K W H O = true) (h2 : inB t 0 (leftOf d f ss K W H O) = true) : openRes d f ss K W H O t = (O + t, true) := by unfold openRes; rw [h, h2]; rfl
theorem leftOf_bd (d f : Int) (ss : List ByteArray) (K W H O : Int) : leftOf d f ss K W H O ≤ 40000 := by
  cases h : copyOk d f ss K W H O
  · rw [leftOf_no h]; omega
  · have h1 := life_bd K W H (mostF ss ss.length)
    have h2 := copyOk_O h
    rw [← lifeOf_yes h] at h1
    rw [leftOf_yes h]; omega
theorem blk7f {w : World} {g : Nat} {t : TypeId} {a0 a1 a2 a3 a4 a5 a6 : Value} (h : w.heap[g]? = some (.cells #[a0, a1, a2, a3, a4, a5, a6] t (0, 0))) :
    (w.frozen? ⟨g, 0, none⟩ = false ∧ w.frozen? ⟨g, 1, none⟩ = false ∧ w.frozen? ⟨g, 2, none⟩ = false ∧ w.frozen? ⟨g, 3, none⟩ = false) ∧ (w.frozen? ⟨g, 4, none⟩ = false ∧ w.frozen? ⟨g, 5, none⟩ = false ∧ w.frozen? ⟨g, 6, none⟩ = false) :=
  ⟨⟨(blk_cells h 0).2, (blk_cells h 1).2, (blk_cells h 2).2, (blk_cells h 3).2⟩, (blk_cells h 4).2, (blk_cells h 5).2, (blk_cells h 6).2⟩
theorem leafC {wf w0 : World} {b g : Nat} {d f K W H O : Int} {ss : List ByteArray} {A : Option Addr} {c : Nat} {z0 z1 z2 z3 z4 z5 z6 : Value} (hk : wf.heap[g]? = some (.cells #[z0, z1, z2, z3, z4, z5, z6] 33 (0, 0))) (ho : OwnS wf b wf.heap.size A c ss) (hb : Below b w0 wf) (hg : b ≤ g) :
    (((((((wf.setCell ⟨g, 0, none⟩ (.int .i64 d)).setCell ⟨g, 1, none⟩ (.int .i64 f)).setCell ⟨g, 2, none⟩ (.slice A ss.length c)).setCell ⟨g, 3, none⟩ (.int .i64 K)).setCell ⟨g, 4, none⟩ (.int .i64 W)).setCell ⟨g, 5, none⟩ (.int .i64 H)).setCell ⟨g, 6, none⟩ (.int .i64 O)).heap[g]? = some (.cells #[.int .i64 d, .int .i64 f, .slice A ss.length c, .int .i64 K, .int .i64 W, .int .i64 H, .int .i64 O] 33 (0, 0)) ∧ OwnS (((((((wf.setCell ⟨g, 0, none⟩ (.int .i64 d)).setCell ⟨g, 1, none⟩ (.int .i64 f)).setCell ⟨g, 2, none⟩ (.slice A ss.length c)).setCell ⟨g, 3, none⟩ (.int .i64 K)).setCell ⟨g, 4, none⟩ (.int .i64 W)).setCell ⟨g, 5, none⟩ (.int .i64 H)).setCell ⟨g, 6, none⟩ (.int .i64 O)) b (((((((wf.setCell ⟨g, 0, none⟩ (.int .i64 d)).setCell ⟨g, 1, none⟩ (.int .i64 f)).setCell ⟨g, 2, none⟩ (.slice A ss.length c)).setCell ⟨g, 3, none⟩ (.int .i64 K)).setCell ⟨g, 4, none⟩ (.int .i64 W)).setCell ⟨g, 5, none⟩ (.int .i64 H)).setCell ⟨g, 6, none⟩ (.int .i64 O)).heap.size A c ss ∧ b ≤ g ∧ Below b w0 (((((((wf.setCell ⟨g, 0, none⟩ (.int .i64 d)).setCell ⟨g, 1, none⟩ (.int .i64 f)).setCell ⟨g, 2, none⟩ (.slice A ss.length c)).setCell ⟨g, 3, none⟩ (.int .i64 K)).setCell ⟨g, 4, none⟩ (.int .i64 W)).setCell ⟨g, 5, none⟩ (.int .i64 H)).setCell ⟨g, 6, none⟩ (.int .i64 O)) := by
  refine ⟨blk7_set hk _ _ _ _ _ _ _, ?_, hg, ?_⟩
  · exact (ho.box hk (by decide) (by repeat (first | (with_reducible exact World.grownBy.refl _ _) | (with_reducible refine only_setCell ?_ (.inl rfl) _)))).wide (Nat.le_refl _) (by simp [World.setCell])
  · exact bel
theorem leafCN {wf w0 : World} {b g : Nat} {d f K W H O : Int} {ss : List ByteArray} {A : Option Addr} {c : Nat} (hb : Below b w0 wf) (ho : OwnS wf b wf.heap.size A c ss) (hg : g = wf.heap.size) (hg2 : b ≤ g) :
    (wf.alloc (.cells #[.int .i64 d, .int .i64 f, .slice A ss.length c, .int .i64 K, .int .i64 W, .int .i64 H, .int .i64 O] 33)).heap[g]? = some (.cells #[.int .i64 d, .int .i64 f, .slice A ss.length c, .int .i64 K, .int .i64 W, .int .i64 H, .int .i64 O] 33 (0, 0)) ∧ OwnS (wf.alloc (.cells #[.int .i64 d, .int .i64 f, .slice A ss.length c, .int .i64 K, .int .i64 W, .int .i64 H, .int .i64 O] 33)) b (wf.alloc (.cells #[.int .i64 d, .int .i64 f, .slice A ss.length c, .int .i64 K, .int .i64 W, .int .i64 H, .int .i64 O] 33)).heap.size A c ss ∧ b ≤ g ∧ Below b w0 (wf.alloc (.cells #[.int .i64 d, .int .i64 f, .slice A ss.length c, .int .i64 K, .int .i64 W, .int .i64 H, .int .i64 O] 33)) := by
  subst hg
  exact ⟨blk_new_at _ _ rfl, (ho.alloc _).wide (Nat.le_refl _) (by simp), hg2, bel⟩
set_option maxHeartbeats 3200000 in
theorem i_OpenCopy (d f : Int) (A : Option Addr) (c : Nat) (ss : List ByteArray) (K W H O t : Int) (w : World) (hS : Strs w w.heap.size A ss.length ss) :
    Calls Try.prog 9 #[.agg #[.int .i64 d, .int .i64 f, .slice A ss.length c, .int .i64 K, .int .i64 W, .int .i64 H, .int .i64 O], .int .i64 t] w fun e w' => ∃ A' c', e = .returned (.tuple #[.agg #[.int .i64 d, .int .i64 f, .slice A' ss.length c', .int .i64 K, .int .i64 W, .int .i64 H, .int .i64 (openRes d f ss K W H O t).1], .bool (openRes d f ss K W H O t).2]) ∧ OwnS w' w.heap.size w'.heap.size A' c' ss ∧ Below w.heap.size w w' := by
  have hn := hS.nb
  obtain ⟨w1, hw1⟩ : ∃ Q9 : World, Q9 = (w.alloc (.cells #[.int .i64 d, .int .i64 f, .slice A ss.length c, .int .i64 K, .int .i64 W, .int .i64 H, .int .i64 O] 33)).alloc (.cells #[.int .i64 0, .int .i64 0, .slice none 0 0, .int .i64 0, .int .i64 0, .int .i64 0, .int .i64 0] 33) := ⟨_, rfl⟩
  have hbw1 : Below w.heap.size w w1 := by rw [hw1]; exact bel
  have hS1 : Strs w1 w.heap.size A ss.length ss := hS.below hbw1
  have hz1 : w.heap.size + 2 ≤ w1.heap.size := by rw [hw1]; simp
  have hka : w1.heap[w.heap.size]? = some (.cells #[.int .i64 d, .int .i64 f, .slice A ss.length c, .int .i64 K, .int .i64 W, .int .i64 H, .int .i64 O] 33 (0, 0)) := by rw [hw1]; exact blk_alloc (blk_new _ _) _
  have hkb : w1.heap[w.heap.size + 1]? = some (.cells #[.int .i64 0, .int .i64 0, .slice none 0 0, .int .i64 0, .int .i64 0, .int .i64 0, .int .i64 0] 33 (0, 0)) := by rw [hw1]; exact blk_new_at _ _ (by simp)
  have hzx0 : w.heap.size < w1.heap.size := by omega
  have hzx1 : w.heap.size + 1 < w1.heap.size := by omega
  cases hc : copyOk d f ss K W H O
  · have HR := Lib.hid (openRes_no1 (t := t) hc)
    have HC := Lib.hid hc
    clear hc
    go_enter Try.func9, Try.ntmps9
    go_upto_region 1 with fail
    rw [← hw1]
    clear hw1
    obtain ⟨ha0, ha1, ha2, ha3, ha4, ha5, ha6, hal⟩ := blk7 hka
    go_cut [6] (fun s6 wx => ∃ (g : Nat) (A9 : Option Addr) (c9 : Nat), s6 = .pointer (some ⟨g, 0, none⟩) ∧ wx.heap[g]? = some (.cells #[.int .i64 d, .int .i64 f, .slice A9 ss.length c9, .int .i64 K, .int .i64 W, .int .i64 H, .int .i64 O] 33 (0, 0)) ∧ OwnS wx w1.heap.size wx.heap.size A9 c9 ss ∧ w1.heap.size ≤ g ∧ Below w1.heap.size w1 wx)
    case first =>
      go_region_held3 (fun W => (∀ b o, b < w1.heap.size → W.cell? ⟨b, o, none⟩ = (w1).cell? ⟨b, o, none⟩) ∧ (∀ b o, b < w1.heap.size → W.frozen? ⟨b, o, none⟩ = (w1).frozen? ⟨b, o, none⟩) ∧ Below (w1.heap.size) (w1) W) (exact keep_of bel) (first | (go_at_call 39; have hq := (‹_ ∧ _ ∧ Below _ _ _›).2.2; refine (i_copied d f w.heap.size A ss.length c ss _ ?_ ?_).mono ?_; exact hS1.below (hq.mono (by omega)); (first | exact Nat.le_trans (by omega) hq.size | omega); rintro e w3 ⟨A3, c3, rfl, ho3, hb3⟩; have hqs3 := hq.size; have hbs3 := hb3.size; (try simp at hqs3); (try simp at hbs3); (have hos : OwnS w3 w1.heap.size w3.heap.size A3 c3 ss := (OwnS.of ho3 (Nat.le_refl _)).wide (by first | exact hq.size | omega) (Nat.le_refl _)); obtain ⟨hcb3, hfb3⟩ := bcell hb3; (try (have hzl1 : w1.heap.size < w3.heap.size := (by omega)))))
      all_goals (go_wp2_with fail)
      all_goals (go_meet)
      all_goals (
        refine ⟨_, A3, c3, rfl, ?_⟩
        first
          | ((with_reducible refine leafCN ?_ ?_ ?_ ?_); (first | exact bel); (focus ((repeat (first | (with_reducible exact hos) | (with_reducible refine OwnS.drew ?_) | (with_reducible refine OwnS.alloc ?_ _))); (first | done | fail))); (first | rfl | (simp; first | done | fail)); (first | omega | (simp; first | done | omega)))
          | ((with_reducible apply leafC); (case hk => (focus ((repeat (first | (with_reducible exact blk_new_at _ _ (by first | rfl | (simp; first | done | fail))) | (with_reducible refine blk_next ?_ hb3) | (with_reducible refine blk_drew ?_) | (with_reducible refine blk_alloc ?_ _))); (first | done | fail)))); (case ho => (focus ((repeat (first | (with_reducible exact hos) | (with_reducible refine OwnS.drew ?_) | (with_reducible refine OwnS.alloc ?_ _))); (first | done | fail)))); (case hb => exact bel); (case hg => first | omega | (simp; first | done | omega))))
    obtain ⟨g9, A9, c9, rfl, hk9, ho9, hg9, hb9⟩ := hcut
    obtain ⟨w5, hwc⟩ : ∃ Q9 : World, Q9 = wc := ⟨_, rfl⟩
    subst hwc
    clear ha0 ha1 ha2 ha3 ha4 ha5 ha6 hal
    have hs9 := hb9.size
    have hka5 := blk_below hka hb9 (by omega)
    have hkb5 := blk_below hkb hb9 (by omega)
    have hbw5 : Below w.heap.size w w5 := hbw1.trans (hb9.mono (by omega))
    obtain ⟨hx0, hx1, hx2, hx3, hx4, hx5, hx6, hxl⟩ := blk7 hka5
    go_wp2_with (first | (go_at_call 31; refine (i_CopyOk d f w.heap.size A ss.length c ss K W H O _ (hS.below hbw5) hbw5.size).mono ?_; rw [HC.out]; rintro e w6 ⟨rfl, hb6⟩; (have hbw6 : Below w.heap.size w w6 := hbw5.trans (hb6.mono hbw5.size)); (have hka6 := blk_next hka5 hb6); (have hkb6 := blk_next hkb5 hb6); (have hk96 := blk_next hk9 hb6); (have ho6 := ho9.below hb6); clear hx0 hx1 hx2 hx3 hx4 hx5 hx6 hxl; obtain ⟨hx0, hx1, hx2, hx3, hx4, hx5, hx6, hxl⟩ := blk7 hka6; obtain ⟨hy0, hy1, hy2, hy3, hy4, hy5, hy6, hyl⟩ := blk7 hk96; obtain ⟨⟨hv0, hv1, hv2, hv3⟩, hv4, hv5, hv6⟩ := blk7f hkb6; obtain ⟨hr0, hr1, hr2, hr3, hr4, hr5, hr6, hrl⟩ := blk7 hkb6))
    refine bodyPost_ret (v := .tuple #[.agg #[.int .i64 d, .int .i64 f, .slice A9 ss.length c9, .int .i64 K, .int .i64 W, .int .i64 H, .int .i64 O], .bool false]) (by simp [results, Try.results9, go_sem, *]) rfl ?_
    rw [HR.out]
    exact ⟨A9, c9, rfl, OwnS.of (own_up ho6.row upr (show w.heap.size ≤ w1.heap.size by omega)) (Nat.le_refl _), bel⟩
  · cases hi : inB t 0 (leftOf d f ss K W H O)
    · have HR := Lib.hid (openRes_no2 hi)
      have HC := Lib.hid hc
      have HI := Lib.hid hi
      clear hc hi
      go_enter Try.func9, Try.ntmps9
      go_upto_region 1 with fail
      rw [← hw1]
      clear hw1
      obtain ⟨ha0, ha1, ha2, ha3, ha4, ha5, ha6, hal⟩ := blk7 hka
      go_cut [6] (fun s6 wx => ∃ (g : Nat) (A9 : Option Addr) (c9 : Nat), s6 = .pointer (some ⟨g, 0, none⟩) ∧ wx.heap[g]? = some (.cells #[.int .i64 d, .int .i64 f, .slice A9 ss.length c9, .int .i64 K, .int .i64 W, .int .i64 H, .int .i64 O] 33 (0, 0)) ∧ OwnS wx w1.heap.size wx.heap.size A9 c9 ss ∧ w1.heap.size ≤ g ∧ Below w1.heap.size w1 wx)
      case first =>
        go_region_held3 (fun W => (∀ b o, b < w1.heap.size → W.cell? ⟨b, o, none⟩ = (w1).cell? ⟨b, o, none⟩) ∧ (∀ b o, b < w1.heap.size → W.frozen? ⟨b, o, none⟩ = (w1).frozen? ⟨b, o, none⟩) ∧ Below (w1.heap.size) (w1) W) (exact keep_of bel) (first | (go_at_call 39; have hq := (‹_ ∧ _ ∧ Below _ _ _›).2.2; refine (i_copied d f w.heap.size A ss.length c ss _ ?_ ?_).mono ?_; exact hS1.below (hq.mono (by omega)); (first | exact Nat.le_trans (by omega) hq.size | omega); rintro e w3 ⟨A3, c3, rfl, ho3, hb3⟩; have hqs3 := hq.size; have hbs3 := hb3.size; (try simp at hqs3); (try simp at hbs3); (have hos : OwnS w3 w1.heap.size w3.heap.size A3 c3 ss := (OwnS.of ho3 (Nat.le_refl _)).wide (by first | exact hq.size | omega) (Nat.le_refl _)); obtain ⟨hcb3, hfb3⟩ := bcell hb3; (try (have hzl1 : w1.heap.size < w3.heap.size := (by omega)))))
        all_goals (go_wp2_with fail)
        all_goals (go_meet)
        all_goals (
          refine ⟨_, A3, c3, rfl, ?_⟩
          first
            | ((with_reducible refine leafCN ?_ ?_ ?_ ?_); (first | exact bel); (focus ((repeat (first | (with_reducible exact hos) | (with_reducible refine OwnS.drew ?_) | (with_reducible refine OwnS.alloc ?_ _))); (first | done | fail))); (first | rfl | (simp; first | done | fail)); (first | omega | (simp; first | done | omega)))
            | ((with_reducible apply leafC); (case hk => (focus ((repeat (first | (with_reducible exact blk_new_at _ _ (by first | rfl | (simp; first | done | fail))) | (with_reducible refine blk_next ?_ hb3) | (with_reducible refine blk_drew ?_) | (with_reducible refine blk_alloc ?_ _))); (first | done | fail)))); (case ho => (focus ((repeat (first | (with_reducible exact hos) | (with_reducible refine OwnS.drew ?_) | (with_reducible refine OwnS.alloc ?_ _))); (first | done | fail)))); (case hb => exact bel); (case hg => first | omega | (simp; first | done | omega))))
      obtain ⟨g9, A9, c9, rfl, hk9, ho9, hg9, hb9⟩ := hcut
      obtain ⟨w5, hwc⟩ : ∃ Q9 : World, Q9 = wc := ⟨_, rfl⟩
      subst hwc
      clear ha0 ha1 ha2 ha3 ha4 ha5 ha6 hal
      have hs9 := hb9.size
      have hka5 := blk_below hka hb9 (by omega)
      have hkb5 := blk_below hkb hb9 (by omega)
      have hbw5 : Below w.heap.size w w5 := hbw1.trans (hb9.mono (by omega))
      obtain ⟨hx0, hx1, hx2, hx3, hx4, hx5, hx6, hxl⟩ := blk7 hka5
      go_wp2_with (first | (go_at_call 31; refine (i_CopyOk d f w.heap.size A ss.length c ss K W H O _ (hS.below hbw5) hbw5.size).mono ?_; rw [HC.out]; rintro e w6 ⟨rfl, hb6⟩; (have hbw6 : Below w.heap.size w w6 := hbw5.trans (hb6.mono hbw5.size)); (have hka6 := blk_next hka5 hb6); (have hkb6 := blk_next hkb5 hb6); (have hk96 := blk_next hk9 hb6); (have ho6 := ho9.below hb6); clear hx0 hx1 hx2 hx3 hx4 hx5 hx6 hxl; obtain ⟨hx0, hx1, hx2, hx3, hx4, hx5, hx6, hxl⟩ := blk7 hka6; obtain ⟨hy0, hy1, hy2, hy3, hy4, hy5, hy6, hyl⟩ := blk7 hk96; obtain ⟨⟨hv0, hv1, hv2, hv3⟩, hv4, hv5, hv6⟩ := blk7f hkb6; obtain ⟨hr0, hr1, hr2, hr3, hr4, hr5, hr6, hrl⟩ := blk7 hkb6) | (go_at_call 25; refine (i_LeftOf d f w.heap.size A ss.length c ss K W H O _ (hS.below hbw6) hbw6.size).mono ?_; rintro e w7 ⟨rfl, hb7⟩; (have hbw7 : Below w.heap.size w w7 := hbw6.trans (hb7.mono hbw6.size)); (have hka7 := blk_next hka6 hb7); (have hkb7 := blk_next hkb6 hb7); (have hk97 := blk_next hk96 hb7); (have ho7 := ho6.below hb7); clear hx0 hx1 hx2 hx3 hx4 hx5 hx6 hxl hy0 hy1 hy2 hy3 hy4 hy5 hy6 hyl hv0 hv1 hv2 hv3 hv4 hv5 hv6 hr0 hr1 hr2 hr3 hr4 hr5 hr6 hrl; obtain ⟨hx0, hx1, hx2, hx3, hx4, hx5, hx6, hxl⟩ := blk7 hka7; obtain ⟨hy0, hy1, hy2, hy3, hy4, hy5, hy6, hyl⟩ := blk7 hk97; obtain ⟨⟨hv0, hv1, hv2, hv3⟩, hv4, hv5, hv6⟩ := blk7f hkb7; obtain ⟨hr0, hr1, hr2, hr3, hr4, hr5, hr6, hrl⟩ := blk7 hkb7; obtain ⟨⟨hu0, hu1, hu2, hu3⟩, hu4, hu5, hu6⟩ := blk7f hk97) | (go_at_call 40; refine (i_within _ _ _ _).mono ?_; rintro e w' ⟨rfl, rfl⟩; rw [HI.out]))
      refine bodyPost_ret (v := .tuple #[.agg #[.int .i64 d, .int .i64 f, .slice A9 ss.length c9, .int .i64 K, .int .i64 W, .int .i64 H, .int .i64 O], .bool false]) (by simp [results, Try.results9, go_sem, *]) rfl ?_
      rw [HR.out]
      exact ⟨A9, c9, rfl, OwnS.of (own_up ho7.row upr (show w.heap.size ≤ w1.heap.size by omega)) (Nat.le_refl _), bel⟩
    · have HR := Lib.hid (openRes_yes hc hi)
      have hO := copyOk_O hc
      have hlb := leftOf_bd d f ss K W H O
      have hti := inB_iff.1 hi
      have hwt : IntKind.i64.wrap (O + t) = O + t := by rw [IntKind.wrap_i64]; omega
      have HC := Lib.hid hc
      have HI := Lib.hid hi
      clear hc hi hti hlb
      go_enter Try.func9, Try.ntmps9
      go_upto_region 1 with fail
      rw [← hw1]
      clear hw1
      obtain ⟨ha0, ha1, ha2, ha3, ha4, ha5, ha6, hal⟩ := blk7 hka
      go_cut [6] (fun s6 wx => ∃ (g : Nat) (A9 : Option Addr) (c9 : Nat), s6 = .pointer (some ⟨g, 0, none⟩) ∧ wx.heap[g]? = some (.cells #[.int .i64 d, .int .i64 f, .slice A9 ss.length c9, .int .i64 K, .int .i64 W, .int .i64 H, .int .i64 O] 33 (0, 0)) ∧ OwnS wx w1.heap.size wx.heap.size A9 c9 ss ∧ w1.heap.size ≤ g ∧ Below w1.heap.size w1 wx)
      case first =>
        go_region_held3 (fun W => (∀ b o, b < w1.heap.size → W.cell? ⟨b, o, none⟩ = (w1).cell? ⟨b, o, none⟩) ∧ (∀ b o, b < w1.heap.size → W.frozen? ⟨b, o, none⟩ = (w1).frozen? ⟨b, o, none⟩) ∧ Below (w1.heap.size) (w1) W) (exact keep_of bel) (first | (go_at_call 39; have hq := (‹_ ∧ _ ∧ Below _ _ _›).2.2; refine (i_copied d f w.heap.size A ss.length c ss _ ?_ ?_).mono ?_; exact hS1.below (hq.mono (by omega)); (first | exact Nat.le_trans (by omega) hq.size | omega); rintro e w3 ⟨A3, c3, rfl, ho3, hb3⟩; have hqs3 := hq.size; have hbs3 := hb3.size; (try simp at hqs3); (try simp at hbs3); (have hos : OwnS w3 w1.heap.size w3.heap.size A3 c3 ss := (OwnS.of ho3 (Nat.le_refl _)).wide (by first | exact hq.size | omega) (Nat.le_refl _)); obtain ⟨hcb3, hfb3⟩ := bcell hb3; (try (have hzl1 : w1.heap.size < w3.heap.size := (by omega)))))
        all_goals (go_wp2_with fail)
        all_goals (go_meet)
        all_goals (
          refine ⟨_, A3, c3, rfl, ?_⟩
          first
            | ((with_reducible refine leafCN ?_ ?_ ?_ ?_); (first | exact bel); (focus ((repeat (first | (with_reducible exact hos) | (with_reducible refine OwnS.drew ?_) | (with_reducible refine OwnS.alloc ?_ _))); (first | done | fail))); (first | rfl | (simp; first | done | fail)); (first | omega | (simp; first | done | omega)))
            | ((with_reducible apply leafC); (case hk => (focus ((repeat (first | (with_reducible exact blk_new_at _ _ (by first | rfl | (simp; first | done | fail))) | (with_reducible refine blk_next ?_ hb3) | (with_reducible refine blk_drew ?_) | (with_reducible refine blk_alloc ?_ _))); (first | done | fail)))); (case ho => (focus ((repeat (first | (with_reducible exact hos) | (with_reducible refine OwnS.drew ?_) | (with_reducible refine OwnS.alloc ?_ _))); (first | done | fail)))); (case hb => exact bel); (case hg => first | omega | (simp; first | done | omega))))
      obtain ⟨g9, A9, c9, rfl, hk9, ho9, hg9, hb9⟩ := hcut
      obtain ⟨w5, hwc⟩ : ∃ Q9 : World, Q9 = wc := ⟨_, rfl⟩
      subst hwc
      clear ha0 ha1 ha2 ha3 ha4 ha5 ha6 hal
      have hs9 := hb9.size
      have hka5 := blk_below hka hb9 (by omega)
      have hkb5 := blk_below hkb hb9 (by omega)
      have hbw5 : Below w.heap.size w w5 := hbw1.trans (hb9.mono (by omega))
      obtain ⟨hx0, hx1, hx2, hx3, hx4, hx5, hx6, hxl⟩ := blk7 hka5
      go_wp2_with (first | (go_at_call 31; refine (i_CopyOk d f w.heap.size A ss.length c ss K W H O _ (hS.below hbw5) hbw5.size).mono ?_; rw [HC.out]; rintro e w6 ⟨rfl, hb6⟩; (have hbw6 : Below w.heap.size w w6 := hbw5.trans (hb6.mono hbw5.size)); (have hka6 := blk_next hka5 hb6); (have hkb6 := blk_next hkb5 hb6); (have hk96 := blk_next hk9 hb6); (have ho6 := ho9.below hb6); clear hx0 hx1 hx2 hx3 hx4 hx5 hx6 hxl; obtain ⟨hx0, hx1, hx2, hx3, hx4, hx5, hx6, hxl⟩ := blk7 hka6; obtain ⟨hy0, hy1, hy2, hy3, hy4, hy5, hy6, hyl⟩ := blk7 hk96; obtain ⟨⟨hv0, hv1, hv2, hv3⟩, hv4, hv5, hv6⟩ := blk7f hkb6; obtain ⟨hr0, hr1, hr2, hr3, hr4, hr5, hr6, hrl⟩ := blk7 hkb6) | (go_at_call 25; refine (i_LeftOf d f w.heap.size A ss.length c ss K W H O _ (hS.below hbw6) hbw6.size).mono ?_; rintro e w7 ⟨rfl, hb7⟩; (have hbw7 : Below w.heap.size w w7 := hbw6.trans (hb7.mono hbw6.size)); (have hka7 := blk_next hka6 hb7); (have hkb7 := blk_next hkb6 hb7); (have hk97 := blk_next hk96 hb7); (have ho7 := ho6.below hb7); clear hx0 hx1 hx2 hx3 hx4 hx5 hx6 hxl hy0 hy1 hy2 hy3 hy4 hy5 hy6 hyl hv0 hv1 hv2 hv3 hv4 hv5 hv6 hr0 hr1 hr2 hr3 hr4 hr5 hr6 hrl; obtain ⟨hx0, hx1, hx2, hx3, hx4, hx5, hx6, hxl⟩ := blk7 hka7; obtain ⟨hy0, hy1, hy2, hy3, hy4, hy5, hy6, hyl⟩ := blk7 hk97; obtain ⟨⟨hv0, hv1, hv2, hv3⟩, hv4, hv5, hv6⟩ := blk7f hkb7; obtain ⟨hr0, hr1, hr2, hr3, hr4, hr5, hr6, hrl⟩ := blk7 hkb7; obtain ⟨⟨hu0, hu1, hu2, hu3⟩, hu4, hu5, hu6⟩ := blk7f hk97) | (go_at_call 40; refine (i_within _ _ _ _).mono ?_; rintro e w' ⟨rfl, rfl⟩; rw [HI.out]))
      have hb7sz : w5.heap.size ≤ w7.heap.size := Nat.le_trans hb6.size hb7.size
      have ho8 : OwnS (w7.setCell ⟨g9, 6, none⟩ (.int .i64 (O + t))) w1.heap.size w7.heap.size A9 c9 ss := (ho7.wide (Nat.le_refl _) hb7sz).box hk97 (by decide) (only_setCell (World.grownBy.refl _ _) (.inl rfl) _)
      refine bodyPost_ret (v := .tuple #[.agg #[.int .i64 d, .int .i64 f, .slice A9 ss.length c9, .int .i64 K, .int .i64 W, .int .i64 H, .int .i64 (O + t)], .bool true]) (by simp [results, Try.results9, go_sem, *]) rfl ?_
      rw [HR.out]
      exact ⟨A9, c9, rfl, OwnS.of (own_up ho8.row upr (show w.heap.size ≤ w1.heap.size by omega)) (Nat.le_refl _), bel⟩
set_option maxHeartbeats 1600000 in
theorem s_l26Copy (d f : Int) (B : Nat) (A : Option Addr) (c : Nat) (ss : List ByteArray) (K W H O : Int) (w : World) (hS : Strs w B A ss.length ss) (hB : B ≤ w.heap.size) :
    Calls Try.prog 33 #[.agg #[.int .i64 d, .int .i64 f, .slice A ss.length c, .int .i64 K, .int .i64 W, .int .i64 H, .int .i64 O]] w fun e w' => ∃ A' c', e = .returned (.agg #[.int .i64 d, .int .i64 f, .slice A' ss.length c', .int .i64 K, .int .i64 W, .int .i64 H, .int .i64 O]) ∧ OwnS w' w.heap.size w'.heap.size A' c' ss ∧ Below w.heap.size w w' := by
  have hS2 := (hS.alloc hB (.cells #[.int .i64 d, .int .i64 f, .slice A ss.length c, .int .i64 K, .int .i64 W, .int .i64 H, .int .i64 O] 33)).alloc (by simp; omega) (.cells #[.int .i64 0, .int .i64 0, .slice none 0 0, .int .i64 0, .int .i64 0, .int .i64 0, .int .i64 0] 33)
  have hka : ((w.alloc (.cells #[.int .i64 d, .int .i64 f, .slice A ss.length c, .int .i64 K, .int .i64 W, .int .i64 H, .int .i64 O] 33)).alloc (.cells #[.int .i64 0, .int .i64 0, .slice none 0 0, .int .i64 0, .int .i64 0, .int .i64 0, .int .i64 0] 33)).heap[w.heap.size]? = some (.cells #[.int .i64 d, .int .i64 f, .slice A ss.length c, .int .i64 K, .int .i64 W, .int .i64 H, .int .i64 O] 33 (0, 0)) := blk_alloc (blk_new _ _) _
  have hkb : ((w.alloc (.cells #[.int .i64 d, .int .i64 f, .slice A ss.length c, .int .i64 K, .int .i64 W, .int .i64 H, .int .i64 O] 33)).alloc (.cells #[.int .i64 0, .int .i64 0, .slice none 0 0, .int .i64 0, .int .i64 0, .int .i64 0, .int .i64 0] 33)).heap[w.heap.size + 1]? = some (.cells #[.int .i64 0, .int .i64 0, .slice none 0 0, .int .i64 0, .int .i64 0, .int .i64 0, .int .i64 0] 33 (0, 0)) := blk_new_at _ _ (by simp)
  go_enter Try.func33, Try.ntmps33
  go_wp2_with (go_at_call 69; refine (s_l05Copy d f B A ss.length c ss _ hS2 (by simp; omega)).mono ?_; rintro e w1 ⟨A1, c1, rfl, ho1, hb1⟩; (have hka1 := blk_next hka hb1); (have hkb1 := blk_next hkb hb1); obtain ⟨hx0, hx1, hx2, hx3, hx4, hx5, hx6, hxl⟩ := blk7 hka1; obtain ⟨hr0, hr1, hr2, hr3, hr4, hr5, hr6, hrl⟩ := blk7 hkb1; obtain ⟨⟨hv0, hv1, hv2, hv3⟩, hv4, hv5, hv6⟩ := blk7f hkb1; obtain ⟨⟨hu0, hu1, hu2, hu3⟩, hu4, hu5, hu6⟩ := blk7f hka1)
  refine bodyPost_ret (v := .agg #[.int .i64 d, .int .i64 f, .slice A1 ss.length c1, .int .i64 K, .int .i64 W, .int .i64 H, .int .i64 O]) (by simp [results, Try.results33, go_sem, *]) rfl ?_
  exact ⟨A1, c1, rfl, OwnS.of (own_up ho1 upr (by first | exact Nat.le_refl _ | (simp; done) | omega | (simp; omega) | exact (‹_ ∧ _ ∧ Below _ _ _›).2.2.size)) (Nat.le_refl _), bel⟩
set_option maxHeartbeats 3200000 in
theorem s_OpenCopy (d f : Int) (A : Option Addr) (c : Nat) (ss : List ByteArray) (K W H O t : Int) (w : World) (hS : Strs w w.heap.size A ss.length ss) :
    Calls Try.prog 7 #[.agg #[.int .i64 d, .int .i64 f, .slice A ss.length c, .int .i64 K, .int .i64 W, .int .i64 H, .int .i64 O], .int .i64 t] w fun e w' => ∃ A' c', e = .returned (.tuple #[.agg #[.int .i64 d, .int .i64 f, .slice A' ss.length c', .int .i64 K, .int .i64 W, .int .i64 H, .int .i64 (openRes d f ss K W H O t).1], .bool (openRes d f ss K W H O t).2]) ∧ OwnS w' w.heap.size w'.heap.size A' c' ss ∧ Below w.heap.size w w' := by
  have hn := hS.nb
  obtain ⟨w1, hw1⟩ : ∃ Q9 : World, Q9 = (w.alloc (.cells #[.int .i64 d, .int .i64 f, .slice A ss.length c, .int .i64 K, .int .i64 W, .int .i64 H, .int .i64 O] 33)).alloc (.cells #[.int .i64 0, .int .i64 0, .slice none 0 0, .int .i64 0, .int .i64 0, .int .i64 0, .int .i64 0] 33) := ⟨_, rfl⟩
  have hbw1 : Below w.heap.size w w1 := by rw [hw1]; exact bel
  have hS1 : Strs w1 w.heap.size A ss.length ss := hS.below hbw1
  have hz1 : w.heap.size + 2 ≤ w1.heap.size := by rw [hw1]; simp
  have hka : w1.heap[w.heap.size]? = some (.cells #[.int .i64 d, .int .i64 f, .slice A ss.length c, .int .i64 K, .int .i64 W, .int .i64 H, .int .i64 O] 33 (0, 0)) := by rw [hw1]; exact blk_alloc (blk_new _ _) _
  have hkb : w1.heap[w.heap.size + 1]? = some (.cells #[.int .i64 0, .int .i64 0, .slice none 0 0, .int .i64 0, .int .i64 0, .int .i64 0, .int .i64 0] 33 (0, 0)) := by rw [hw1]; exact blk_new_at _ _ (by simp)
  have hzx0 : w.heap.size < w1.heap.size := by omega
  have hzx1 : w.heap.size + 1 < w1.heap.size := by omega
  cases hc : copyOk d f ss K W H O
  · have HR := Lib.hid (openRes_no1 (t := t) hc)
    have HC := Lib.hid hc
    clear hc
    go_enter Try.func7, Try.ntmps7
    go_wp2_with fail
    rw [← hw1]
    clear hw1
    refine (s_l26Copy d f w.heap.size A c ss K W H O w1 hS1 (by omega)).mono ?_
    rintro e w3 ⟨A9, c9, rfl, hos, hb3⟩
    obtain ⟨w5, hw5⟩ : ∃ Q9 : World, Q9 = w3.alloc (.cells #[.int .i64 d, .int .i64 f, .slice A9 ss.length c9, .int .i64 K, .int .i64 W, .int .i64 H, .int .i64 O] 33) := ⟨_, rfl⟩
    obtain ⟨g9, hge⟩ : ∃ g, g = w3.heap.size := ⟨_, rfl⟩
    have hbs3 := hb3.size
    obtain ⟨ht0, ht1, ht2, ht3, ht4, ht5, ht6, htl⟩ := blk7 (blk_next hka hb3)
    have hk9 : w5.heap[g9]? = some (.cells #[.int .i64 d, .int .i64 f, .slice A9 ss.length c9, .int .i64 K, .int .i64 W, .int .i64 H, .int .i64 O] 33 (0, 0)) := by rw [hw5, hge]; exact blk_new _ _
    have ho9 : OwnS w5 w1.heap.size w5.heap.size A9 c9 ss := by rw [hw5]; exact (hos.alloc _).wide (Nat.le_refl _) (by simp)
    have hg9 : w1.heap.size ≤ g9 := by omega
    have hb9 : Below w1.heap.size w1 w5 := by rw [hw5]; exact bel
    have hs9 := hb9.size
    have hka5 := blk_below hka hb9 (by omega)
    have hkb5 := blk_below hkb hb9 (by omega)
    have hbw5 : Below w.heap.size w w5 := hbw1.trans (hb9.mono (by omega))
    obtain ⟨hx0, hx1, hx2, hx3, hx4, hx5, hx6, hxl⟩ := blk7 hka5
    go_wp2_with fail
    rw [← hw5, ← hge]
    clear hw5 hge ht0 ht1 ht2 ht3 ht4 ht5 ht6 htl
    go_wp2_with (first | (go_at_call 34; refine (s_CopyOk d f w.heap.size A ss.length c ss K W H O _ (hS.below hbw5) hbw5.size).mono ?_; rw [HC.out]; rintro e w6 ⟨rfl, hb6⟩; (have hbw6 : Below w.heap.size w w6 := hbw5.trans (hb6.mono hbw5.size)); (have hka6 := blk_next hka5 hb6); (have hkb6 := blk_next hkb5 hb6); (have hk96 := blk_next hk9 hb6); (have ho6 := ho9.below hb6); clear hx0 hx1 hx2 hx3 hx4 hx5 hx6 hxl; obtain ⟨hx0, hx1, hx2, hx3, hx4, hx5, hx6, hxl⟩ := blk7 hka6; obtain ⟨hy0, hy1, hy2, hy3, hy4, hy5, hy6, hyl⟩ := blk7 hk96; obtain ⟨⟨hv0, hv1, hv2, hv3⟩, hv4, hv5, hv6⟩ := blk7f hkb6; obtain ⟨hr0, hr1, hr2, hr3, hr4, hr5, hr6, hrl⟩ := blk7 hkb6))
    refine bodyPost_ret (v := .tuple #[.agg #[.int .i64 d, .int .i64 f, .slice A9 ss.length c9, .int .i64 K, .int .i64 W, .int .i64 H, .int .i64 O], .bool false]) (by simp [results, Try.results7, go_sem, *]) rfl ?_
    rw [HR.out]
    exact ⟨A9, c9, rfl, OwnS.of (own_up ho6.row upr (show w.heap.size ≤ w1.heap.size by omega)) (Nat.le_refl _), bel⟩
  · cases hi : inB t 0 (leftOf d f ss K W H O)
    · have HR := Lib.hid (openRes_no2 hi)
      have HC := Lib.hid hc
      have HI := Lib.hid hi
      clear hc hi
      go_enter Try.func7, Try.ntmps7
      go_wp2_with fail
      rw [← hw1]
      clear hw1
      refine (s_l26Copy d f w.heap.size A c ss K W H O w1 hS1 (by omega)).mono ?_
      rintro e w3 ⟨A9, c9, rfl, hos, hb3⟩
      obtain ⟨w5, hw5⟩ : ∃ Q9 : World, Q9 = w3.alloc (.cells #[.int .i64 d, .int .i64 f, .slice A9 ss.length c9, .int .i64 K, .int .i64 W, .int .i64 H, .int .i64 O] 33) := ⟨_, rfl⟩
      obtain ⟨g9, hge⟩ : ∃ g, g = w3.heap.size := ⟨_, rfl⟩
      have hbs3 := hb3.size
      obtain ⟨ht0, ht1, ht2, ht3, ht4, ht5, ht6, htl⟩ := blk7 (blk_next hka hb3)
      have hk9 : w5.heap[g9]? = some (.cells #[.int .i64 d, .int .i64 f, .slice A9 ss.length c9, .int .i64 K, .int .i64 W, .int .i64 H, .int .i64 O] 33 (0, 0)) := by rw [hw5, hge]; exact blk_new _ _
      have ho9 : OwnS w5 w1.heap.size w5.heap.size A9 c9 ss := by rw [hw5]; exact (hos.alloc _).wide (Nat.le_refl _) (by simp)
      have hg9 : w1.heap.size ≤ g9 := by omega
      have hb9 : Below w1.heap.size w1 w5 := by rw [hw5]; exact bel
      have hs9 := hb9.size
      have hka5 := blk_below hka hb9 (by omega)
      have hkb5 := blk_below hkb hb9 (by omega)
      have hbw5 : Below w.heap.size w w5 := hbw1.trans (hb9.mono (by omega))
      obtain ⟨hx0, hx1, hx2, hx3, hx4, hx5, hx6, hxl⟩ := blk7 hka5
      go_wp2_with fail
      rw [← hw5, ← hge]
      clear hw5 hge ht0 ht1 ht2 ht3 ht4 ht5 ht6 htl
      go_wp2_with (first | (go_at_call 34; refine (s_CopyOk d f w.heap.size A ss.length c ss K W H O _ (hS.below hbw5) hbw5.size).mono ?_; rw [HC.out]; rintro e w6 ⟨rfl, hb6⟩; (have hbw6 : Below w.heap.size w w6 := hbw5.trans (hb6.mono hbw5.size)); (have hka6 := blk_next hka5 hb6); (have hkb6 := blk_next hkb5 hb6); (have hk96 := blk_next hk9 hb6); (have ho6 := ho9.below hb6); clear hx0 hx1 hx2 hx3 hx4 hx5 hx6 hxl; obtain ⟨hx0, hx1, hx2, hx3, hx4, hx5, hx6, hxl⟩ := blk7 hka6; obtain ⟨hy0, hy1, hy2, hy3, hy4, hy5, hy6, hyl⟩ := blk7 hk96; obtain ⟨⟨hv0, hv1, hv2, hv3⟩, hv4, hv5, hv6⟩ := blk7f hkb6; obtain ⟨hr0, hr1, hr2, hr3, hr4, hr5, hr6, hrl⟩ := blk7 hkb6) | (go_at_call 36; refine (s_LeftOf d f w.heap.size A ss.length c ss K W H O _ (hS.below hbw6) hbw6.size).mono ?_; rintro e w7 ⟨rfl, hb7⟩; (have hbw7 : Below w.heap.size w w7 := hbw6.trans (hb7.mono hbw6.size)); (have hka7 := blk_next hka6 hb7); (have hkb7 := blk_next hkb6 hb7); (have hk97 := blk_next hk96 hb7); (have ho7 := ho6.below hb7); clear hx0 hx1 hx2 hx3 hx4 hx5 hx6 hxl hy0 hy1 hy2 hy3 hy4 hy5 hy6 hyl hv0 hv1 hv2 hv3 hv4 hv5 hv6 hr0 hr1 hr2 hr3 hr4 hr5 hr6 hrl; obtain ⟨hx0, hx1, hx2, hx3, hx4, hx5, hx6, hxl⟩ := blk7 hka7; obtain ⟨hy0, hy1, hy2, hy3, hy4, hy5, hy6, hyl⟩ := blk7 hk97; obtain ⟨⟨hv0, hv1, hv2, hv3⟩, hv4, hv5, hv6⟩ := blk7f hkb7; obtain ⟨hr0, hr1, hr2, hr3, hr4, hr5, hr6, hrl⟩ := blk7 hkb7; obtain ⟨⟨hu0, hu1, hu2, hu3⟩, hu4, hu5, hu6⟩ := blk7f hk97) | (go_at_call 35; refine (s_l01In _ _ _ _).mono ?_; rintro e w' ⟨rfl, rfl⟩; rw [HI.out]))
      refine bodyPost_ret (v := .tuple #[.agg #[.int .i64 d, .int .i64 f, .slice A9 ss.length c9, .int .i64 K, .int .i64 W, .int .i64 H, .int .i64 O], .bool false]) (by simp [results, Try.results7, go_sem, *]) rfl ?_
      rw [HR.out]
      exact ⟨A9, c9, rfl, OwnS.of (own_up ho7.row upr (show w.heap.size ≤ w1.heap.size by omega)) (Nat.le_refl _), bel⟩
    · have HR := Lib.hid (openRes_yes hc hi)
      have hO := copyOk_O hc
      have hlb := leftOf_bd d f ss K W H O
      have hti := inB_iff.1 hi
      have hwt : IntKind.i64.wrap (O + t) = O + t := by rw [IntKind.wrap_i64]; omega
      have HC := Lib.hid hc
      have HI := Lib.hid hi
      clear hc hi hti hlb
      go_enter Try.func7, Try.ntmps7
      go_wp2_with fail
      rw [← hw1]
      clear hw1
      refine (s_l26Copy d f w.heap.size A c ss K W H O w1 hS1 (by omega)).mono ?_
      rintro e w3 ⟨A9, c9, rfl, hos, hb3⟩
      obtain ⟨w5, hw5⟩ : ∃ Q9 : World, Q9 = w3.alloc (.cells #[.int .i64 d, .int .i64 f, .slice A9 ss.length c9, .int .i64 K, .int .i64 W, .int .i64 H, .int .i64 O] 33) := ⟨_, rfl⟩
      obtain ⟨g9, hge⟩ : ∃ g, g = w3.heap.size := ⟨_, rfl⟩
      have hbs3 := hb3.size
      obtain ⟨ht0, ht1, ht2, ht3, ht4, ht5, ht6, htl⟩ := blk7 (blk_next hka hb3)
      have hk9 : w5.heap[g9]? = some (.cells #[.int .i64 d, .int .i64 f, .slice A9 ss.length c9, .int .i64 K, .int .i64 W, .int .i64 H, .int .i64 O] 33 (0, 0)) := by rw [hw5, hge]; exact blk_new _ _
      have ho9 : OwnS w5 w1.heap.size w5.heap.size A9 c9 ss := by rw [hw5]; exact (hos.alloc _).wide (Nat.le_refl _) (by simp)
      have hg9 : w1.heap.size ≤ g9 := by omega
      have hb9 : Below w1.heap.size w1 w5 := by rw [hw5]; exact bel
      have hs9 := hb9.size
      have hka5 := blk_below hka hb9 (by omega)
      have hkb5 := blk_below hkb hb9 (by omega)
      have hbw5 : Below w.heap.size w w5 := hbw1.trans (hb9.mono (by omega))
      obtain ⟨hx0, hx1, hx2, hx3, hx4, hx5, hx6, hxl⟩ := blk7 hka5
      go_wp2_with fail
      rw [← hw5, ← hge]
      clear hw5 hge ht0 ht1 ht2 ht3 ht4 ht5 ht6 htl
      go_wp2_with (first | (go_at_call 34; refine (s_CopyOk d f w.heap.size A ss.length c ss K W H O _ (hS.below hbw5) hbw5.size).mono ?_; rw [HC.out]; rintro e w6 ⟨rfl, hb6⟩; (have hbw6 : Below w.heap.size w w6 := hbw5.trans (hb6.mono hbw5.size)); (have hka6 := blk_next hka5 hb6); (have hkb6 := blk_next hkb5 hb6); (have hk96 := blk_next hk9 hb6); (have ho6 := ho9.below hb6); clear hx0 hx1 hx2 hx3 hx4 hx5 hx6 hxl; obtain ⟨hx0, hx1, hx2, hx3, hx4, hx5, hx6, hxl⟩ := blk7 hka6; obtain ⟨hy0, hy1, hy2, hy3, hy4, hy5, hy6, hyl⟩ := blk7 hk96; obtain ⟨⟨hv0, hv1, hv2, hv3⟩, hv4, hv5, hv6⟩ := blk7f hkb6; obtain ⟨hr0, hr1, hr2, hr3, hr4, hr5, hr6, hrl⟩ := blk7 hkb6) | (go_at_call 36; refine (s_LeftOf d f w.heap.size A ss.length c ss K W H O _ (hS.below hbw6) hbw6.size).mono ?_; rintro e w7 ⟨rfl, hb7⟩; (have hbw7 : Below w.heap.size w w7 := hbw6.trans (hb7.mono hbw6.size)); (have hka7 := blk_next hka6 hb7); (have hkb7 := blk_next hkb6 hb7); (have hk97 := blk_next hk96 hb7); (have ho7 := ho6.below hb7); clear hx0 hx1 hx2 hx3 hx4 hx5 hx6 hxl hy0 hy1 hy2 hy3 hy4 hy5 hy6 hyl hv0 hv1 hv2 hv3 hv4 hv5 hv6 hr0 hr1 hr2 hr3 hr4 hr5 hr6 hrl; obtain ⟨hx0, hx1, hx2, hx3, hx4, hx5, hx6, hxl⟩ := blk7 hka7; obtain ⟨hy0, hy1, hy2, hy3, hy4, hy5, hy6, hyl⟩ := blk7 hk97; obtain ⟨⟨hv0, hv1, hv2, hv3⟩, hv4, hv5, hv6⟩ := blk7f hkb7; obtain ⟨hr0, hr1, hr2, hr3, hr4, hr5, hr6, hrl⟩ := blk7 hkb7; obtain ⟨⟨hu0, hu1, hu2, hu3⟩, hu4, hu5, hu6⟩ := blk7f hk97) | (go_at_call 35; refine (s_l01In _ _ _ _).mono ?_; rintro e w' ⟨rfl, rfl⟩; rw [HI.out]))
      have hb7sz : w5.heap.size ≤ w7.heap.size := Nat.le_trans hb6.size hb7.size
      have ho8 : OwnS (w7.setCell ⟨g9, 6, none⟩ (.int .i64 (O + t))) w1.heap.size w7.heap.size A9 c9 ss := (ho7.wide (Nat.le_refl _) hb7sz).box hk97 (by decide) (only_setCell (World.grownBy.refl _ _) (.inl rfl) _)
      refine bodyPost_ret (v := .tuple #[.agg #[.int .i64 d, .int .i64 f, .slice A9 ss.length c9, .int .i64 K, .int .i64 W, .int .i64 H, .int .i64 (O + t)], .bool true]) (by simp [results, Try.results7, go_sem, *]) rfl ?_
      rw [HR.out]
      exact ⟨A9, c9, rfl, OwnS.of (own_up ho8.row upr (show w.heap.size ≤ w1.heap.size by omega)) (Nat.le_refl _), bel⟩
end Go.Proofs.Ytdddglihomchfaa
