/- Papers and copies are drawn: l23Paper, l26Draw, DrawCopy. -/
import Derived.Test.YtdddglihomchfaaDraw3
import Derived.Deep.RegionHeld3
namespace Go.Proofs.Ytdddglihomchfaa
open Go.ChangeShapes Go.WideShapes Go.ChangeAt Go.RowKit
set_option linter.unusedVariables false
set_option maxRecDepth 10000

def PaperIn (K X H : Int) : Prop := 0 ≤ K ∧ K ≤ 9 ∧ 40 ≤ X ∧ X ≤ 400 ∧ 0 ≤ H ∧ H ≤ 100000
set_option maxHeartbeats 1600000 in
theorem s_l23Paper (g B : Nat) (A : Option Addr) (c : Nat) (bs : List Int) (w : World) (hC : Cur w g B A c bs) :
    Calls Try.prog 81 #[.pointer (some ⟨g, 0, none⟩)] w fun e w' => ∃ K X H : Int, PaperIn K X H ∧ e = .returned (.agg #[.int .i64 K, .int .i64 X, .int .i64 H]) ∧ Cur w' g B A c bs ∧ w.grownBy w' (some g) := by
  have hgw := hC.lt
  have hlo := hC.lo
  go_enter Try.func81, Try.ntmps81
  go_wp2_with fail
  have hkr0 := blk_new w (.cells #[.int .i64 0, .int .i64 0, .int .i64 0] 31)
  have hC0 := hC.alloc (.cells #[.int .i64 0, .int .i64 0, .int .i64 0] 31)
  have hg0 : w.grownBy (w.alloc (.cells #[.int .i64 0, .int .i64 0, .int .i64 0] 31)) (some g) := grown_then (World.grownBy.refl w _) bel
  generalize w.alloc (.cells #[.int .i64 0, .int .i64 0, .int .i64 0] 31) = w0 at *
  refine (s_l01Below 4 g B A c bs w0 hC0 (by omega) (by omega)).mono ?_
  rintro e w1 ⟨x1, rfl, hx1, hx1', hC1, hg1⟩
  have hkr1 := hC0.blk_keep hkr0 (by omega) hg1
  have hgr1 := only_trans hg0 hg1
  go_wp2_with fail
  refine (s_l01Below 10 g B A c bs w1 hC1 (by omega) (by omega)).mono ?_
  rintro e w2 ⟨x2, rfl, hx2, hx2', hC2, hg2⟩
  have hkr2 := hC1.blk_keep hkr1 (by omega) hg2
  have hgr2 := only_trans hgr1 hg2
  go_wp2_with fail
  refine (s_l01Below 60 g B A c bs w2 hC2 (by omega) (by omega)).mono ?_
  rintro e w3 ⟨x3, rfl, hx3, hx3', hC3, hg3⟩
  have hkr3 := hC2.blk_keep hkr2 (by omega) hg3
  have hgr3 := only_trans hgr2 hg3
  clear hC0 hC1 hC2 hg0 hg1 hg2 hg3 hkr0 hkr1 hkr2 hgr1 hgr2
  have hw1 : wrap64 (20 * x2) = 20 * x2 := by unfold wrap64; omega
  obtain ⟨hx0, hx1_, hx2_, hxl⟩ := blk3 hkr3
  have hf0 := (blk_cells hkr3 0).2
  have hf1 := (blk_cells hkr3 1).2
  have hf2 := (blk_cells hkr3 2).2
  go_wp2
  refine bodyPost_ret (v := .agg #[.int .i64 x1, .int .i64 (80 + 20 * x2), .int .i64 x3]) (by simp [results, Try.results81, go_sem, *]) rfl ?_
  refine ⟨x1, 80 + 20 * x2, x3, ⟨by omega, by omega, by omega, by omega, by omega, by omega⟩, rfl, ((hC3.put_other (by simp; omega) (by simp; omega) _).put_other (by simp; omega) (by simp; omega) _).put_other (by simp; omega) (by simp; omega) _, grown_then hgr3 bel⟩
/-- a copy that was drawn, of the call's own -/
def DrawnCopy (g B : Nat) (A : Option Addr) (c : Nat) (bs : List Int) (w : World) (e : Ending) (w' : World) : Prop :=
  ∃ (d f : Nat) (ss : List ByteArray) (A' : Option Addr) (c' : Nat) (K X H O : Int), (1 ≤ d ∧ d ≤ 4 ∧ 1 ≤ f ∧ f ≤ 4 ∧ 1 ≤ ss.length ∧ ss.length ≤ 6) ∧ (∀ x ∈ ss, Drew d f x) ∧ PaperIn K X H ∧ (0 ≤ O ∧ O < 120) ∧
    e = .returned (.agg #[.int .i64 d, .int .i64 f, .slice A' ss.length c', .int .i64 K, .int .i64 X, .int .i64 H, .int .i64 O]) ∧ OwnS w' w.heap.size w'.heap.size A' c' ss ∧ Cur w' g B A c bs ∧ w.grownBy w' (some g)
/-- what holds in the course of the last statement of l26Draw: x's cells, the cursor, the result's block, the strips -/
def Q26 (w w2 : World) (x g B : Nat) (A : Option Addr) (c : Nat) (bs : List Int) (A' : Option Addr) (c' : Nat) (ss : List ByteArray) (W : World) : Prop :=
  Cur W g B A c bs ∧ w.grownBy W (some g) ∧ (∃ z0 z1 z2 z3 z4 z5 z6 : Value, W.heap[w.heap.size]? = some (.cells #[z0, z1, z2, z3, z4, z5, z6] 33 (0, 0))) ∧ OwnS W (w.heap.size + 1) W.heap.size A' c' ss
theorem q26_store {w w2 W : World} {x g B : Nat} {A : Option Addr} {c : Nat} {bs : List Int} {A' : Option Addr} {c' : Nat} {ss : List ByteArray} (hx : x ≠ w.heap.size) (hg : g ≠ w.heap.size) (hB : B ≤ w.heap.size) (a0 a1 a2 a3 a4 a5 a6 : Value)
    (h : (∀ o, W.cell? ⟨x, o, none⟩ = w2.cell? ⟨x, o, none⟩) ∧ Q26 w w2 x g B A c bs A' c' ss W) :
    (∀ o, (((((((W.setCell ⟨w.heap.size, 0, none⟩ a0).setCell ⟨w.heap.size, 1, none⟩ a1).setCell ⟨w.heap.size, 2, none⟩ a2).setCell ⟨w.heap.size, 3, none⟩ a3).setCell ⟨w.heap.size, 4, none⟩ a4).setCell ⟨w.heap.size, 5, none⟩ a5).setCell ⟨w.heap.size, 6, none⟩ a6).cell? ⟨x, o, none⟩ = w2.cell? ⟨x, o, none⟩) ∧
      Q26 w w2 x g B A c bs A' c' ss (((((((W.setCell ⟨w.heap.size, 0, none⟩ a0).setCell ⟨w.heap.size, 1, none⟩ a1).setCell ⟨w.heap.size, 2, none⟩ a2).setCell ⟨w.heap.size, 3, none⟩ a3).setCell ⟨w.heap.size, 4, none⟩ a4).setCell ⟨w.heap.size, 5, none⟩ a5).setCell ⟨w.heap.size, 6, none⟩ a6) := by
  obtain ⟨h1, hC, hgr, ⟨z0, z1, z2, z3, z4, z5, z6, hk⟩, ho⟩ := h
  refine ⟨fun o => ?_, ?_, ?_, ⟨_, _, _, _, _, _, _, blk7_set hk _ _ _ _ _ _ _⟩, ?_⟩
  · rw [← h1 o]
    have hne : ∀ (W : World) (i : Nat) (v : Value), (W.setCell ⟨w.heap.size, i, none⟩ v).cell? ⟨x, o, none⟩ = W.cell? ⟨x, o, none⟩ := fun W i v => World.cell?_of_block (Below.heap_setCell _ _ _ _ (show x ≠ w.heap.size from hx))
    rw [hne, hne, hne, hne, hne, hne, hne]
  · iterate 7 (refine Cur.put_other ?_ (show g ≠ w.heap.size from hg) hB _)
    exact hC
  · exact grown_then hgr (by repeat (first | (with_reducible exact Below.refl _ _) | (refine Below.setCell ?_ (show w.heap.size ≤ w.heap.size from Nat.le_refl w.heap.size) _)))
  · exact (ho.box hk (by decide) (by repeat (first | (with_reducible exact World.grownBy.refl _ _) | (with_reducible refine only_setCell ?_ (.inl rfl) _)))).wide (Nat.le_refl _) (by simp [World.setCell])
set_option maxHeartbeats 3200000 in
theorem s_l26Draw (g B : Nat) (A : Option Addr) (c : Nat) (bs : List Int) (w : World) (hC : Cur w g B A c bs) :
    Calls Try.prog 59 #[.pointer (some ⟨g, 0, none⟩)] w (DrawnCopy g B A c bs w) := by
  have hgw := hC.lt
  have hlo := hC.lo
  go_enter Try.func59, Try.ntmps59
  go_wp2_with fail
  have hkr0 := blk_new w (.cells #[.int .i64 0, .int .i64 0, .slice none 0 0, .int .i64 0, .int .i64 0, .int .i64 0, .int .i64 0] 33)
  have hC0 := hC.alloc (.cells #[.int .i64 0, .int .i64 0, .slice none 0 0, .int .i64 0, .int .i64 0, .int .i64 0, .int .i64 0] 33)
  have hg0 : w.grownBy (w.alloc (.cells #[.int .i64 0, .int .i64 0, .slice none 0 0, .int .i64 0, .int .i64 0, .int .i64 0, .int .i64 0] 33)) (some g) := grown_then (World.grownBy.refl w _) bel
  have hs0 : (w.alloc (.cells #[.int .i64 0, .int .i64 0, .slice none 0 0, .int .i64 0, .int .i64 0, .int .i64 0, .int .i64 0] 33)).heap.size = w.heap.size + 1 := by simp
  generalize w.alloc (.cells #[.int .i64 0, .int .i64 0, .slice none 0 0, .int .i64 0, .int .i64 0, .int .i64 0, .int .i64 0] 33) = w0 at *
  refine (s_l05Card g B A c bs w0 hC0).mono ?_
  rintro e w1 ⟨d, f, ss, A', c', hb, hss, rfl, ho1, hC1, hg1⟩
  have HB := hide hb
  have HSS := hide hss
  have hkr1 := hC0.blk_keep hkr0 (by omega) hg1
  have hgr1 := only_trans hg0 hg1
  have hs1 := hg1.size
  clear hb hss hC0 hg0 hg1 hkr0
  go_wp2
  have hkx2 := blk_new w1 (.cells #[.int .i64 d, .int .i64 f, .slice A' ss.length c'] 30)
  have hkr2 := blk_alloc hkr1 (.cells #[.int .i64 d, .int .i64 f, .slice A' ss.length c'] 30)
  have hC2 := hC1.alloc (.cells #[.int .i64 d, .int .i64 f, .slice A' ss.length c'] 30)
  have ho2 := ho1.alloc (.cells #[.int .i64 d, .int .i64 f, .slice A' ss.length c'] 30)
  have hg2 : w.grownBy (w1.alloc (.cells #[.int .i64 d, .int .i64 f, .slice A' ss.length c'] 30)) (some g) := grown_then hgr1 bel
  have hs2 : (w1.alloc (.cells #[.int .i64 d, .int .i64 f, .slice A' ss.length c'] 30)).heap.size = w1.heap.size + 1 := by simp
  have hg1l := hC1.lt
  generalize (w1.alloc (.cells #[.int .i64 d, .int .i64 f, .slice A' ss.length c'] 30)) = w2 at *
  obtain ⟨hx0, hx1, hx2, hxl⟩ := blk3 hkx2
  have hxg : w1.heap.size ≠ g := by omega
  clear hC1 hkr1 ho1 hgr1
  have hQ2 : Q26 w w2 w1.heap.size g B A c bs A' c' ss w2 := ⟨hC2, hg2, ⟨_, _, _, _, _, _, _, hkr2⟩, ho2.wide (by omega) (by omega)⟩
  have hSd : (∀ o, w2.drew.cell? ⟨w1.heap.size, o, none⟩ = w2.cell? ⟨w1.heap.size, o, none⟩) ∧ Q26 w w2 w1.heap.size g B A c bs A' c' ss w2.drew := ⟨fun _ => rfl, hC2.drew, only_trans hg2 ⟨rfl, rfl, rfl, Nat.le_refl _, fun _ _ _ => rfl⟩, ⟨_, _, _, _, _, _, _, hkr2⟩, (show OwnS w2.drew (w.heap.size + 1) w2.heap.size A' c' ss from (ho2.wide (by omega) (by omega)).drew)⟩
  have hSw : (∀ o, w2.cell? ⟨w1.heap.size, o, none⟩ = w2.cell? ⟨w1.heap.size, o, none⟩) ∧ Q26 w w2 w1.heap.size g B A c bs A' c' ss w2 := ⟨fun _ => rfl, hQ2⟩
  have keep : ∀ W W' : World, ((∀ o, W.cell? ⟨w1.heap.size, o, none⟩ = w2.cell? ⟨w1.heap.size, o, none⟩) ∧ Q26 w w2 w1.heap.size g B A c bs A' c' ss W) → Cur W' g B A c bs → W.grownBy W' (some g) → (∀ o, W'.cell? ⟨w1.heap.size, o, none⟩ = w2.cell? ⟨w1.heap.size, o, none⟩) ∧ Q26 w w2 w1.heap.size g B A c bs A' c' ss W' := by
    intro W W' hq hC hg3
    obtain ⟨h1, hC0, hgr, ⟨z0, z1, z2, z3, z4, z5, z6, hk⟩, ho⟩ := hq
    refine ⟨fun o => (World.cell?_of_block (hg3.block w1.heap.size (World.block_lt_of_cell? W _ ((h1 0).trans hx0)) (fun e => hxg (by injection e)))).trans (h1 o), hC, only_trans hgr hg3, ⟨z0, z1, z2, z3, z4, z5, z6, hC0.blk_keep hk (by omega) hg3⟩, ⟨hC0.own ho.row (by decide) hg3, fun k hk => by have := ho.top k hk; have := hg3.size; omega⟩⟩
  have arm1 : ∀ W : World, ((∀ o, W.cell? ⟨w1.heap.size, o, none⟩ = w2.cell? ⟨w1.heap.size, o, none⟩) ∧ Q26 w w2 w1.heap.size g B A c bs A' c' ss W) → Calls Try.prog 81 #[.pointer (some ⟨g, 0, none⟩)] W fun e w' => ∃ K X H : Int, PaperIn K X H ∧ e = .returned (.agg #[.int .i64 K, .int .i64 X, .int .i64 H]) ∧ ((∀ o, w'.cell? ⟨w1.heap.size, o, none⟩ = w2.cell? ⟨w1.heap.size, o, none⟩) ∧ Q26 w w2 w1.heap.size g B A c bs A' c' ss w') := by
    intro W hq
    refine (s_l23Paper g B A c bs W hq.2.1).mono ?_
    rintro e wa ⟨K, X, H, hP, rfl, hCa, hga⟩
    exact ⟨K, X, H, hP, rfl, keep W wa hq hCa hga⟩
  have arm2 : ∀ W : World, ((∀ o, W.cell? ⟨w1.heap.size, o, none⟩ = w2.cell? ⟨w1.heap.size, o, none⟩) ∧ Q26 w w2 w1.heap.size g B A c bs A' c' ss W) → Calls Try.prog 82 #[.pointer (some ⟨g, 0, none⟩), .int .i64 120] W fun e w' => ∃ O : Int, 0 ≤ O ∧ O < 120 ∧ e = .returned (.int .i64 O) ∧ ((∀ o, w'.cell? ⟨w1.heap.size, o, none⟩ = w2.cell? ⟨w1.heap.size, o, none⟩) ∧ Q26 w w2 w1.heap.size g B A c bs A' c' ss w') := by
    intro W hq
    refine (s_l01Below 120 g B A c bs W hq.2.1 (by omega) (by omega)).mono ?_
    rintro e wb ⟨O, rfl, hO0, hO1, hCb, hgb⟩
    exact ⟨O, hO0, hO1, rfl, keep W wb hq hCb hgb⟩
  have hxw : w1.heap.size ≠ w.heap.size := by omega
  clear hkr2 keep hQ2
  go_region_held3 (fun W => (∀ o, W.cell? ⟨w1.heap.size, o, none⟩ = w2.cell? ⟨w1.heap.size, o, none⟩) ∧ Q26 w w2 w1.heap.size g B A c bs A' c' ss W)
    (first | (with_reducible exact hSa) | (with_reducible exact hSb) | (with_reducible exact hSd) | (with_reducible exact hSw) | (with_reducible exact q26_store hxw (by omega) (by omega) _ _ _ _ _ _ _ hSb) | (with_reducible exact q26_store hxw (by omega) (by omega) _ _ _ _ _ _ _ hSa))
    (first
      | (go_at_call 81; refine (arm1 _ (by with_reducible assumption)).mono ?_; rintro e wa ⟨K, X, H, hP, rfl, hSa⟩)
      | (go_at_call 82; refine (arm2 _ (by with_reducible assumption)).mono ?_; rintro e wb ⟨O, hO0, hO1, rfl, hSb⟩; obtain ⟨z0, z1, z2, z3, z4, z5, z6, hkrb⟩ := hSb.2.2.2.1; obtain ⟨hy0, hy1, hy2, hy3, hy4, hy5, hy6, hyl⟩ := blk7 hkrb; have hz0 := (blk_cells hkrb 0).2; have hz1 := (blk_cells hkrb 1).2; have hz2 := (blk_cells hkrb 2).2; have hz3 := (blk_cells hkrb 3).2; have hz4 := (blk_cells hkrb 4).2; have hz5 := (blk_cells hkrb 5).2; have hz6 := (blk_cells hkrb 6).2))
  all_goals (
    have hF := q26_store hxw (by omega) (by omega) (.int .i64 d) (.int .i64 f) (.slice A' ss.length c') (.int .i64 K) (.int .i64 X) (.int .i64 H) (.int .i64 O) hSb
    go_wp2
    refine bodyPost_ret (v := .agg #[.int .i64 d, .int .i64 f, .slice A' ss.length c', .int .i64 K, .int .i64 X, .int .i64 H, .int .i64 O]) (by simp [results, Try.results59, go_sem, *]) rfl ?_
    exact ⟨d, f, ss, A', c', K, X, H, O, HB.out, HSS.out, hP, ⟨hO0, hO1⟩, rfl, hF.2.2.2.2.wide (by omega) (Nat.le_refl _), hF.2.1, hF.2.2.1⟩)
end Go.Proofs.Ytdddglihomchfaa
