/- A workshop argument of a law: its size, and how it is opened. -/
import Derived.Test.YtdddglihomchfaaGreatUWorkT
import Derived.Test.YtdddglihomchfaaGreatLift
namespace Go.Proofs.YtdddglihomchfaaGreat
open Go.ChangeShapes Go.WideShapes Go.ChangeAt Go.RowKit
set_option linter.unusedVariables false
set_option linter.unusedSimpArgs false
set_option maxRecDepth 10000

def szPap (pp : List PPaper) (left : Int) : Int := if left - pp.length < 0 then -1 else left - pp.length
def szW (D : PDraft) (P : List PItem) (pp : List PPaper) (left : Int) : Int :=
  if szD D left < 0 then -1 else if szItems P (szD D left) < 0 then -1 else szPap pp (szItems P (szD D left))
theorem szPap_ub (pp : List PPaper) (l : Int) (h : l ≤ 1048576) : szPap pp l ≤ 1048576 := by unfold szPap; split <;> omega
theorem szPap_ge (pp : List PPaper) (l : Int) : -1 ≤ szPap pp l := by unfold szPap; split <;> omega
theorem szW_ub (D : PDraft) (P : List PItem) (pp : List PPaper) (l : Int) (h : l ≤ 1048576) : szW D P pp l ≤ 1048576 := by
  unfold szW
  split
  · omega
  · split
    · omega
    · exact szPap_ub _ _ (szItems_ub _ _ (szD_ub _ _ h))
/-- how a workshop's rows read, whatever their lengths -/
structure RawWork (w : World) (B : Nat) (A1 A2 A3 A4 A5 : Option Addr) (D : PDraft) (P : List PItem) (pp : List PPaper) : Prop where
  d : RawDraft w B A1 A2 A3 D
  i : ∃ L, plI L = P ∧ RawItems w B A4 L
  p : Reads w B 3 A5 pp.length (pp.flatMap paperCells)
  pn : pp.length ≤ 9223372036854775807
theorem RawWork.below {w w' : World} {B : Nat} {A1 A2 A3 A4 A5 : Option Addr} {D : PDraft} {P : List PItem} {pp : List PPaper} (h : RawWork w B A1 A2 A3 A4 A5 D P pp) (hb : Below B w w') : RawWork w' B A1 A2 A3 A4 A5 D P pp := ⟨h.d.below hb, h.i.elim fun L q => ⟨L, q.1, q.2.below hb⟩, h.p.below hb, h.pn⟩
theorem RdWork0.raw {w : World} {B : Nat} {A1 A2 A3 A4 A5 : Option Addr} {D : PDraft} {P : List PItem} {pp : List PPaper} (h : RdWork0 w B A1 A2 A3 A4 A5 D P pp) : RawWork w B A1 A2 A3 A4 A5 D P pp :=
  ⟨h.d.raw, h.i.elim fun L q => ⟨L, q.1, Items.raw (by have hl := q.2.len; rw [hl]; exact q.2)⟩, h.p.rd, by have := h.p.nb; omega⟩
theorem work_of_sz {w : World} {A1 A2 A3 A4 A5 : Option Addr} {D : PDraft} {P : List PItem} {pp : List PPaper} {l : Int} (h : RawWork w w.heap.size A1 A2 A3 A4 A5 D P pp) (hl : l ≤ 1048576) (hz : 0 ≤ szW D P pp l) : RdWork0 w w.heap.size A1 A2 A3 A4 A5 D P pp ∧ OkWork D P pp 1048576 := by
  unfold szW at hz
  split at hz
  · omega
  · split at hz
    · omega
    · obtain ⟨h1, n1⟩ := draft_of_sz h.d hl (by omega)
      have u1 := szD_ub D l hl
      obtain ⟨L, rfl, hL⟩ := h.i
      obtain ⟨h2, n2⟩ := items_of_sz hL u1 (by omega)
      have u2 := szItems_ub (plI L) _ u1
      unfold szPap at hz
      split at hz
      · omega
      · exact ⟨⟨h1, ⟨L, rfl, by rw [plI_len]; exact h2⟩, ⟨h.p, by omega⟩⟩, ⟨n1, n2, by omega⟩⟩
set_option maxHeartbeats 400000 in
theorem l_szPaperS (pp : List PPaper) (A : Option Addr) (c : Nat) (left : Int) (w : World) (hn : pp.length ≤ 9223372036854775807) (h0 : -1 ≤ left) (h1 : left ≤ 1048576) :
    Calls Tryz.prog 61 #[.slice A pp.length c, .int .i64 left] w fun e w' => e = .returned (.int .i64 (szPap pp left)) ∧ Below w.heap.size w w' := by
  by_cases h3 : left - pp.length < 0
  · have HR : Hid (szPap pp left = -1) := by unfold Hid szPap; rw [if_pos h3]
    have hw : IntKind.i64.wrap (left - pp.length) = left - pp.length := by rw [IntKind.wrap_i64]; omega
    go_enter Tryz.func61, Tryz.ntmps61
    go_wp2
    go_ret
    exact ⟨ret_int HR.out.symm, (by repeat (first | (with_reducible exact Below.refl _ _) | (with_reducible assumption) | (with_reducible exact (‹_ ∧ _ ∧ Below _ _ _›).2.2) | (with_reducible refine below_drewN ?_ _) | (with_reducible refine Below.drew ?_) | ((with_reducible refine Below.alloc ?_ ?hsd _); (case hsd => (first | exact Nat.le_refl _ | (simp; done) | omega | (simp; omega) | exact (‹_ ∧ _ ∧ Below _ _ _›).2.2.size))) | ((with_reducible refine Below.setCell ?_ ?hsd _); (case hsd => (first | exact Nat.le_refl _ | (simp; done) | omega | (simp; omega) | exact (‹_ ∧ _ ∧ Below _ _ _›).2.2.size))) | ((with_reducible refine Below.trans ?_ (Below.mono (by with_reducible assumption) ?hsd)); (case hsd => (first | exact Nat.le_refl _ | (simp; done) | omega | (simp; omega) | exact (‹_ ∧ _ ∧ Below _ _ _›).2.2.size))) | exact Below.refl _ _ | assumption | exact (‹_ ∧ _ ∧ Below _ _ _›).2.2 | refine below_drewN ?_ _ | refine Below.drew ?_ | refine Below.alloc ?_ (by first | exact Nat.le_refl _ | (simp; done) | omega | (simp; omega) | exact (‹_ ∧ _ ∧ Below _ _ _›).2.2.size) _ | refine Below.setCell ?_ (by first | exact Nat.le_refl _ | (simp; done) | omega | (simp; omega) | exact (‹_ ∧ _ ∧ Below _ _ _›).2.2.size) _ | refine Below.trans ?_ (Below.mono (by assumption) (by first | exact Nat.le_refl _ | (simp; done) | omega | (simp; omega) | exact (‹_ ∧ _ ∧ Below _ _ _›).2.2.size))))⟩
  · have HR : Hid (szPap pp left = left - pp.length) := by unfold Hid szPap; rw [if_neg h3]
    have hw : IntKind.i64.wrap (left - pp.length) = left - pp.length := by rw [IntKind.wrap_i64]; omega
    go_enter Tryz.func61, Tryz.ntmps61
    go_wp2
    go_ret
    exact ⟨ret_int HR.out.symm, (by repeat (first | (with_reducible exact Below.refl _ _) | (with_reducible assumption) | (with_reducible exact (‹_ ∧ _ ∧ Below _ _ _›).2.2) | (with_reducible refine below_drewN ?_ _) | (with_reducible refine Below.drew ?_) | ((with_reducible refine Below.alloc ?_ ?hsd _); (case hsd => (first | exact Nat.le_refl _ | (simp; done) | omega | (simp; omega) | exact (‹_ ∧ _ ∧ Below _ _ _›).2.2.size))) | ((with_reducible refine Below.setCell ?_ ?hsd _); (case hsd => (first | exact Nat.le_refl _ | (simp; done) | omega | (simp; omega) | exact (‹_ ∧ _ ∧ Below _ _ _›).2.2.size))) | ((with_reducible refine Below.trans ?_ (Below.mono (by with_reducible assumption) ?hsd)); (case hsd => (first | exact Nat.le_refl _ | (simp; done) | omega | (simp; omega) | exact (‹_ ∧ _ ∧ Below _ _ _›).2.2.size))) | exact Below.refl _ _ | assumption | exact (‹_ ∧ _ ∧ Below _ _ _›).2.2 | refine below_drewN ?_ _ | refine Below.drew ?_ | refine Below.alloc ?_ (by first | exact Nat.le_refl _ | (simp; done) | omega | (simp; omega) | exact (‹_ ∧ _ ∧ Below _ _ _›).2.2.size) _ | refine Below.setCell ?_ (by first | exact Nat.le_refl _ | (simp; done) | omega | (simp; omega) | exact (‹_ ∧ _ ∧ Below _ _ _›).2.2.size) _ | refine Below.trans ?_ (Below.mono (by assumption) (by first | exact Nat.le_refl _ | (simp; done) | omega | (simp; omega) | exact (‹_ ∧ _ ∧ Below _ _ _›).2.2.size))))⟩
theorem l_szItemS2 (P : List PItem) (B : Nat) (A : Option Addr) (c : Nat) (L : List RItem) (left : Int) (w : World) (hp : plI L = P) (hR : RawItems w B A L) (hB : B ≤ w.heap.size) (h0 : -1 ≤ left) (h1 : left ≤ 1048576) :
    Calls Tryz.prog 60 #[.slice A P.length c, .int .i64 left] w fun e w' => e = .returned (.int .i64 (szItems P left)) ∧ Below w.heap.size w w' := by
  subst hp
  have h := l_szItemS B A c L left w hR hB h0 h1
  rw [← plI_len L] at h
  exact h
set_option maxHeartbeats 3200000 in
theorem l_szWorkshop (d1 f1 : Int) (ss1 : List ByteArray) (d2 f2 : Int) (ss2 : List ByteArray) (st : List PStep) (P : List PItem) (pp : List PPaper) (m : Int) (B : Nat) (A1 A2 A3 A4 A5 : Option Addr) (c1 c2 c3 c4 c5 : Nat) (left : Int) (w : World) (hB : B ≤ w.heap.size) (hR : RawWork w B A1 A2 A3 A4 A5 ⟨d1, f1, ss1, d2, f2, ss2, st⟩ P pp) (h0 : -1 ≤ left) (h1 : left ≤ 1048576) :
    Calls Tryz.prog 15 #[.agg #[.int .i64 d1, .int .i64 f1, .slice A1 ss1.length c1, .int .i64 d2, .int .i64 f2, .slice A2 ss2.length c2, .slice A3 st.length c3, .slice A4 P.length c4, .slice A5 pp.length c5, .int .i64 m], .int .i64 left] w fun e w' => e = .returned (.int .i64 (szW ⟨d1, f1, ss1, d2, f2, ss2, st⟩ P pp left)) ∧ Below w.heap.size w w' := by
  obtain ⟨L, hp, hL⟩ := hR.i
  have u1 := szD_ub ⟨d1, f1, ss1, d2, f2, ss2, st⟩ left h1
  have g1 : -1 ≤ szD ⟨d1, f1, ss1, d2, f2, ss2, st⟩ left := by
    rcases Int.lt_or_le (szD ⟨d1, f1, ss1, d2, f2, ss2, st⟩ left) 0 with h | h
    · rw [szDraft_n h]; omega
    · omega
  have u2 := szItems_ub P (szD ⟨d1, f1, ss1, d2, f2, ss2, st⟩ left) u1
  have g2 := szItems_ge P (szD ⟨d1, f1, ss1, d2, f2, ss2, st⟩ left) g1
  have g3 := szPap_ge pp (szItems P (szD ⟨d1, f1, ss1, d2, f2, ss2, st⟩ left))
  have hc1 := fun (W : World) (h : Below w.heap.size w W) => l_szDraft2 ⟨d1, f1, ss1, d2, f2, ss2, st⟩ B A1 A2 A3 c1 c2 c3 left W (Nat.le_trans hB h.size) (hR.d.below (h.mono hB)) h0 h1
  have hc2 := fun (W : World) (h : Below w.heap.size w W) => l_szItemS2 P B A4 c4 L (szD ⟨d1, f1, ss1, d2, f2, ss2, st⟩ left) W hp (hL.below (h.mono hB)) (Nat.le_trans hB h.size) g1 u1
  have hc3 := fun (W : World) => l_szPaperS pp A5 c5 (szItems P (szD ⟨d1, f1, ss1, d2, f2, ss2, st⟩ left)) W hR.pn g2 u2
  unfold szW
  generalize szPap pp (szItems P (szD ⟨d1, f1, ss1, d2, f2, ss2, st⟩ left)) = q3 at *
  generalize szItems P (szD ⟨d1, f1, ss1, d2, f2, ss2, st⟩ left) = q2 at *
  generalize szD ⟨d1, f1, ss1, d2, f2, ss2, st⟩ left = q1 at *
  have HC1 := hide hc1
  have HC2 := hide hc2
  have HC3 := hide hc3
  clear hc1 hc2 hc3 hL hp hR
  have hka := blk_new w (.cells #[.int .i64 d1, .int .i64 f1, .slice A1 ss1.length c1, .int .i64 d2, .int .i64 f2, .slice A2 ss2.length c2, .slice A3 st.length c3, .slice A4 P.length c4, .slice A5 pp.length c5, .int .i64 m] 31)
  have hb0 : Below w.heap.size w (w.alloc (.cells #[.int .i64 d1, .int .i64 f1, .slice A1 ss1.length c1, .int .i64 d2, .int .i64 f2, .slice A2 ss2.length c2, .slice A3 st.length c3, .slice A4 P.length c4, .slice A5 pp.length c5, .int .i64 m] 31)) := (Below.refl _ _).alloc (Nat.le_refl _) _
  by_cases n1 : q1 < 0
  · rw [if_pos n1]
    go_enter Tryz.func15, Tryz.ntmps15
    go_wp2_with fail
    refine (unhide HC1 _ hb0).mono ?_
    rintro e w1 ⟨rfl, hb1⟩
    have hbw1 : Below w.heap.size w w1 := hb0.trans (hb1.mono hb0.size)
    go_wp2
    go_ret
    exact ⟨rfl, hbw1⟩
  · rw [if_neg n1]
    by_cases n2 : q2 < 0
    · rw [if_pos n2]
      go_enter Tryz.func15, Tryz.ntmps15
      go_wp2_with fail
      refine (unhide HC1 _ hb0).mono ?_
      rintro e w1 ⟨rfl, hb1⟩
      have hbw1 : Below w.heap.size w w1 := hb0.trans (hb1.mono hb0.size)
      obtain ⟨hx0, hx1, hx2, hx3, hx4, hx5, hx6, hx7, hx8, hx9, hxl⟩ := blk10 (blk_next hka hb1)
      go_wp2_with fail
      refine (unhide HC2 _ hbw1).mono ?_
      rintro e w2 ⟨rfl, hb2⟩
      have hbw2 : Below w.heap.size w w2 := hbw1.trans (hb2.mono hbw1.size)
      go_wp2
      go_ret
      exact ⟨rfl, hbw2⟩
    · rw [if_neg n2]
      by_cases n3 : q3 < 0
      · have h3 : q3 = -1 := by omega
        have H3 := Lib.hid h3
        clear h3
        go_enter Tryz.func15, Tryz.ntmps15
        go_wp2_with fail
        refine (unhide HC1 _ hb0).mono ?_
        rintro e w1 ⟨rfl, hb1⟩
        have hbw1 : Below w.heap.size w w1 := hb0.trans (hb1.mono hb0.size)
        obtain ⟨hx0, hx1, hx2, hx3, hx4, hx5, hx6, hx7, hx8, hx9, hxl⟩ := blk10 (blk_next hka hb1)
        go_wp2_with fail
        clear hx0 hx1 hx2 hx3 hx4 hx5 hx6 hx7 hx8 hx9 hxl
        refine (unhide HC2 _ hbw1).mono ?_
        rintro e w2 ⟨rfl, hb2⟩
        have hbw2 : Below w.heap.size w w2 := hbw1.trans (hb2.mono hbw1.size)
        obtain ⟨hy0, hy1, hy2, hy3, hy4, hy5, hy6, hy7, hy8, hy9, hyl⟩ := blk10 (blk_next (blk_next hka hb1) hb2)
        go_wp2_with fail
        refine (unhide HC3 _).mono ?_
        rintro e w3 ⟨rfl, hb3⟩
        have hbw3 : Below w.heap.size w w3 := hbw2.trans (hb3.mono hbw2.size)
        go_wp2
        go_ret
        exact ⟨ret_int H3.out.symm, hbw3⟩
      · go_enter Tryz.func15, Tryz.ntmps15
        go_wp2_with fail
        refine (unhide HC1 _ hb0).mono ?_
        rintro e w1 ⟨rfl, hb1⟩
        have hbw1 : Below w.heap.size w w1 := hb0.trans (hb1.mono hb0.size)
        obtain ⟨hx0, hx1, hx2, hx3, hx4, hx5, hx6, hx7, hx8, hx9, hxl⟩ := blk10 (blk_next hka hb1)
        go_wp2_with fail
        clear hx0 hx1 hx2 hx3 hx4 hx5 hx6 hx7 hx8 hx9 hxl
        refine (unhide HC2 _ hbw1).mono ?_
        rintro e w2 ⟨rfl, hb2⟩
        have hbw2 : Below w.heap.size w w2 := hbw1.trans (hb2.mono hbw1.size)
        obtain ⟨hy0, hy1, hy2, hy3, hy4, hy5, hy6, hy7, hy8, hy9, hyl⟩ := blk10 (blk_next (blk_next hka hb1) hb2)
        go_wp2_with fail
        refine (unhide HC3 _).mono ?_
        rintro e w3 ⟨rfl, hb3⟩
        have hbw3 : Below w.heap.size w w3 := hbw2.trans (hb3.mono hbw2.size)
        go_wp2
        go_ret
        exact ⟨rfl, hbw3⟩
theorem cells_lworkW : Tryz.prog.cellsOf 31 = 10 := by kernel_rfl
theorem cells_litemsW : Tryz.prog.cellsOf 28 = 1 := by kernel_rfl
theorem cells_lpapersW : Tryz.prog.cellsOf 29 = 1 := by kernel_rfl
theorem cells_lpaperW : Tryz.prog.cellsOf 150 = 3 := by kernel_rfl
theorem trod_draftW {H : Type} {enc : TypeId × Value → H} {W : World} {n : Nat} {k0 k1 k2 k3 k4 k5 k6 : Value} {x : DataW H × List MemPlace} (hf' : DataW.trod enc Tryz.prog W 0 (fun _ => true) true n 27 [k0, k1, k2, k3, k4, k5, k6] = some x) :
    ∃ (d1 f1 : Int) (ss1 : List ByteArray) (d2 f2 : Int) (ss2 : List ByteArray) (st : List PStep) (A1 A2 A3 : Option Addr) (c1 c2 c3 : Nat), k0 = .int .i64 d1 ∧ k1 = .int .i64 f1 ∧ k2 = .slice A1 ss1.length c1 ∧ k3 = .int .i64 d2 ∧ k4 = .int .i64 f2 ∧ k5 = .slice A2 ss2.length c2 ∧ k6 = .slice A3 st.length c3 ∧ RawDraft W W.heap.size A1 A2 A3 ⟨d1, f1, ss1, d2, f2, ss2, st⟩ := by
  obtain ⟨m0, y0, h0⟩ := trod_field Tryz.underlying27 hf' 0 _ rfl cells_lcard3
  obtain ⟨m1, y1, h1⟩ := trod_field Tryz.underlying27 hf' 1 _ rfl cells_lcard3
  obtain ⟨m2, y2, h2⟩ := trod_field Tryz.underlying27 hf' 2 _ rfl cells_steps
  obtain ⟨d1, f1, A1, e1, ss1, rfl, rfl, rfl, hR1, hm1, hz1⟩ := trod_card h0
  obtain ⟨d2, f2, A2, e2, ss2, rfl, rfl, rfl, hR2, hm2, hz2⟩ := trod_card h1
  obtain ⟨A3, e3, st, rfl, hR3, hm3, hz3⟩ := trod_steps h2
  unfold maxLen at hm1 hm2 hm3 hz1 hz2 hz3
  exact ⟨d1, f1, ss1, d2, f2, ss2, st, A1, A2, A3, e1, e2, e3, rfl, rfl, rfl, rfl, rfl, rfl, rfl, ⟨hR1, hR2, hR3, hm1, hm2, hm3, hz1, hz2, hz3⟩⟩
theorem trod_itemsW {H : Type} {enc : TypeId × Value → H} {W : World} {n : Nat} {k0 : Value} {x : DataW H × List MemPlace} (hf : DataW.trod enc Tryz.prog W 0 (fun _ => true) true n 28 [k0] = some x) :
    ∃ (A : Option Addr) (c : Nat) (P : List PItem), k0 = .slice A P.length c ∧ ∃ L, plI L = P ∧ RawItems W W.heap.size A L := by
  obtain ⟨A, n, c, l, hcs, hR, hl, hm, hq⟩ := reads_rows (α := RItem) (f := itemCells) (Q := fun r => Reads W W.heap.size 1 r.A r.x.ss.length (r.x.ss.map Value.string) ∧ r.x.ss.length ≤ 9223372036854775807 ∧ (∀ s ∈ r.x.ss, s.size ≤ 9223372036854775807) ∧ r.x.nm.size ≤ 9223372036854775807) itemCells_len (by omega) Tryz.underlying28 cells_litem hf (fun n cs' y hcl ht => by
    match cs', hcl with
    | [c0, c1, c2, c3], _ =>
      obtain ⟨nm, d, f, A, c, ss, rfl, rfl, rfl, rfl, hR, hm, hs, hnm⟩ := trod_item ht
      exact ⟨⟨⟨nm, d, f, ss⟩, A, c⟩, rfl, hR, hm, hs, hnm⟩)
  subst hl
  simp at hcs
  exact ⟨A, c, plI l, by rw [plI_len]; exact hcs, l, rfl, hR, hm, hq⟩
theorem trod_papersW {H : Type} {enc : TypeId × Value → H} {W : World} {n : Nat} {k0 : Value} {x : DataW H × List MemPlace} (hf : DataW.trod enc Tryz.prog W 0 (fun _ => true) true n 29 [k0] = some x) :
    ∃ (A : Option Addr) (c : Nat) (l : List PPaper), k0 = .slice A l.length c ∧ Reads W W.heap.size 3 A l.length (l.flatMap paperCells) ∧ l.length ≤ 9223372036854775807 := by
  obtain ⟨A, n, c, l, hcs, hR, hl, hm, hq⟩ := reads_rows (α := PPaper) (f := paperCells) (Q := fun _ => True) paperCells_len (by omega) Tryz.underlying29 cells_lpaperW hf (fun n cs' y hcl ht => by
    match cs', hcl with
    | [c0, c1, c2], _ =>
      obtain ⟨m0, y0, h0⟩ := trod_field Tryz.underlying150 ht 0 _ rfl cells_int
      obtain ⟨m1, y1, h1⟩ := trod_field Tryz.underlying150 ht 1 _ rfl cells_int
      obtain ⟨m2, y2, h2⟩ := trod_field Tryz.underlying150 ht 2 _ rfl cells_int
      obtain ⟨a, e0, _, _⟩ := DataW.trod_int Tryz.underlying3 h0
      obtain ⟨b, e1, _, _⟩ := DataW.trod_int Tryz.underlying3 h1
      obtain ⟨c, e2, _, _⟩ := DataW.trod_int Tryz.underlying3 h2
      simp at e0 e1 e2
      subst e0 e1 e2
      exact ⟨⟨a, b, c⟩, rfl, trivial⟩)
  subst hl
  simp at hcs
  exact ⟨A, c, l, hcs, hR, hm⟩
theorem open_work {H : Type} {enc : TypeId × Value → H} {W : World} {r : Reach} {b0 : Nat} {v : Value} {d : DataW H} {p : List MemPlace}
    (hv : Value.okWide Tryz.prog W r b0 31 v) (h : DataW.Trod enc Tryz.prog W 0 (fun _ => true) true 31 v d p) :
    ∃ (d1 f1 : Int) (ss1 : List ByteArray) (d2 f2 : Int) (ss2 : List ByteArray) (st : List PStep) (P : List PItem) (pp : List PPaper) (m : Int) (A1 A2 A3 A4 A5 : Option Addr) (c1 c2 c3 c4 c5 : Nat), v = .agg #[.int .i64 d1, .int .i64 f1, .slice A1 ss1.length c1, .int .i64 d2, .int .i64 f2, .slice A2 ss2.length c2, .slice A3 st.length c3, .slice A4 P.length c4, .slice A5 pp.length c5, .int .i64 m] ∧ RawWork W W.heap.size A1 A2 A3 A4 A5 ⟨d1, f1, ss1, d2, f2, ss2, st⟩ P pp := by
  obtain ⟨cs, rfl, hsz⟩ := okWide_struct Tryz.underlying31 hv
  obtain ⟨k0, k1, k2, k3, k4, k5, k6, k7, k8, k9, rfl⟩ : ∃ k0 k1 k2 k3 k4 k5 k6 k7 k8 k9, cs = #[k0, k1, k2, k3, k4, k5, k6, k7, k8, k9] := by
    have hsz2 := hsz.trans cells_lworkW
    obtain ⟨l⟩ := cs
    match l, hsz2 with
    | [k0, k1, k2, k3, k4, k5, k6, k7, k8, k9], _ => exact ⟨k0, k1, k2, k3, k4, k5, k6, k7, k8, k9, rfl⟩
  obtain ⟨fuel, hf⟩ := h
  have hf' : DataW.trod enc Tryz.prog W 0 (fun _ => true) true fuel 31 [k0, k1, k2, k3, k4, k5, k6, k7, k8, k9] = some (d, p) := by simpa [Value.cells] using hf
  obtain ⟨m0, y0, h0⟩ := trod_field Tryz.underlying31 hf' 0 _ rfl cells_ldraft
  obtain ⟨m1, y1, h1⟩ := trod_field Tryz.underlying31 hf' 1 _ rfl cells_litemsW
  obtain ⟨m2, y2, h2⟩ := trod_field Tryz.underlying31 hf' 2 _ rfl cells_lpapersW
  obtain ⟨m3, y3, h3⟩ := trod_field Tryz.underlying31 hf' 3 _ rfl cells_int
  obtain ⟨d1, f1, ss1, d2, f2, ss2, st, A1, A2, A3, e1, e2, e3, rfl, rfl, rfl, rfl, rfl, rfl, rfl, hD⟩ := trod_draftW h0
  obtain ⟨A4, e4, P, rfl, hI⟩ := trod_itemsW h1
  obtain ⟨A5, e5, pp, rfl, hP, hPn⟩ := trod_papersW h2
  obtain ⟨m, e9, _, _⟩ := DataW.trod_int Tryz.underlying3 h3
  simp at e9
  subst e9
  exact ⟨d1, f1, ss1, d2, f2, ss2, st, P, pp, m, A1, A2, A3, A4, A5, e1, e2, e3, e4, e5, rfl, ⟨hD, hI, hP, hPn⟩⟩
end Go.Proofs.YtdddglihomchfaaGreat
