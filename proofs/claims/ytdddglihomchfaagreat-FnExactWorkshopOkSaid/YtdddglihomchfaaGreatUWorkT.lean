/- Workshops in the one form: drafts, items and papers in three ranges of blocks, apart; the law package's helpers over them. -/
import Derived.Test.YtdddglihomchfaaGreatUWork
import Derived.Test.YtdddglihomchfaaGreatDraft3
import Derived.Test.YtdddglihomchfaaGreatItem3
import Derived.Test.YtdddglihomchfaaGreatRowPaper
namespace Go.Proofs.YtdddglihomchfaaGreat
open Go.ChangeShapes Go.WideShapes Go.ChangeAt Go.RowKit
set_option linter.unusedVariables false
set_option linter.unusedSimpArgs false
set_option maxRecDepth 10000

theorem u_toPaperS (pp : List PPaper) (B : Nat) (A : Option Addr) (c : Nat) (w : World) (hS : Papers w B A pp.length pp) (hB : B ≤ w.heap.size) :
    Calls Tryz.prog 68 #[.slice A pp.length c] w fun e w' => ∃ A' c', e = .returned (.slice A' pp.length c') ∧ OwnP w' w.heap.size w'.heap.size A' c' pp ∧ Below w.heap.size w w' :=
  (l_toPaperS B A _ c pp w hS hB).mono fun _ _ h => by
    obtain ⟨A', c', he, ho, hb⟩ := h
    exact ⟨A', c', he, OwnP.of ho (Nat.le_refl _), hb⟩
theorem u_toItemS2 (P : List PItem) (B : Nat) (A : Option Addr) (c : Nat) (L : List RItem) (w : World) (hp : plI L = P) (hS : Items w B A P.length L) (hB : B ≤ w.heap.size) :
    Calls Tryz.prog 67 #[.slice A P.length c] w (UItems P w) := by
  have hl : L.length = P.length := hS.len
  have h := u_toItemS P B A c L w hp (by rw [hl]; exact hS) hB
  rw [hl] at h
  exact h
set_option maxHeartbeats 3200000 in
theorem u_toWorkshop (d1 f1 : Int) (ss1 : List ByteArray) (d2 f2 : Int) (ss2 : List ByteArray) (st : List PStep) (P : List PItem) (pp : List PPaper) (m : Int) (B : Nat) (A1 A2 A3 A4 A5 : Option Addr) (c1 c2 c3 c4 c5 : Nat) (w : World) (hS : RdWork0 w B A1 A2 A3 A4 A5 ⟨d1, f1, ss1, d2, f2, ss2, st⟩ P pp) (hB : B ≤ w.heap.size) :
    Calls Tryz.prog 17 #[.agg #[.int .i64 d1, .int .i64 f1, .slice A1 ss1.length c1, .int .i64 d2, .int .i64 f2, .slice A2 ss2.length c2, .slice A3 st.length c3, .slice A4 P.length c4, .slice A5 pp.length c5, .int .i64 m]] w (UWork d1 f1 ss1 d2 f2 ss2 st P pp m w) := by
  obtain ⟨L, hpl, hL⟩ := hS.i
  have HPL := Lib.hid hpl
  have hlen : L.length = P.length := hL.len
  clear hpl
  go_enter Tryz.func17, Tryz.ntmps17
  go_wp2_with fail
  have hb0 : Below w.heap.size w (((w.alloc (.cells #[.int .i64 d1, .int .i64 f1, .slice A1 ss1.length c1, .int .i64 d2, .int .i64 f2, .slice A2 ss2.length c2, .slice A3 st.length c3, .slice A4 P.length c4, .slice A5 pp.length c5, .int .i64 m] 31)).alloc (.cells #[.int .i64 0, .int .i64 0, .slice none 0 0, .int .i64 0, .int .i64 0, .slice none 0 0, .slice none 0 0, .slice none 0 0, .slice none 0 0, .int .i64 0] 41)).alloc (.cells #[.int .i64 0, .int .i64 0, .slice none 0 0, .int .i64 0, .int .i64 0, .slice none 0 0, .slice none 0 0, .slice none 0 0, .slice none 0 0, .int .i64 0] 41)) := (((Below.refl _ _).alloc (Nat.le_refl _) _).alloc (by simp) _).alloc (by simp; omega) _
  have hka : (((w.alloc (.cells #[.int .i64 d1, .int .i64 f1, .slice A1 ss1.length c1, .int .i64 d2, .int .i64 f2, .slice A2 ss2.length c2, .slice A3 st.length c3, .slice A4 P.length c4, .slice A5 pp.length c5, .int .i64 m] 31)).alloc (.cells #[.int .i64 0, .int .i64 0, .slice none 0 0, .int .i64 0, .int .i64 0, .slice none 0 0, .slice none 0 0, .slice none 0 0, .slice none 0 0, .int .i64 0] 41)).alloc (.cells #[.int .i64 0, .int .i64 0, .slice none 0 0, .int .i64 0, .int .i64 0, .slice none 0 0, .slice none 0 0, .slice none 0 0, .slice none 0 0, .int .i64 0] 41)).heap[w.heap.size]? = some (.cells #[.int .i64 d1, .int .i64 f1, .slice A1 ss1.length c1, .int .i64 d2, .int .i64 f2, .slice A2 ss2.length c2, .slice A3 st.length c3, .slice A4 P.length c4, .slice A5 pp.length c5, .int .i64 m] 31 (0, 0)) := blk_alloc (blk_alloc (blk_new _ _) _) _
  have hko : (((w.alloc (.cells #[.int .i64 d1, .int .i64 f1, .slice A1 ss1.length c1, .int .i64 d2, .int .i64 f2, .slice A2 ss2.length c2, .slice A3 st.length c3, .slice A4 P.length c4, .slice A5 pp.length c5, .int .i64 m] 31)).alloc (.cells #[.int .i64 0, .int .i64 0, .slice none 0 0, .int .i64 0, .int .i64 0, .slice none 0 0, .slice none 0 0, .slice none 0 0, .slice none 0 0, .int .i64 0] 41)).alloc (.cells #[.int .i64 0, .int .i64 0, .slice none 0 0, .int .i64 0, .int .i64 0, .slice none 0 0, .slice none 0 0, .slice none 0 0, .slice none 0 0, .int .i64 0] 41)).heap[w.heap.size + 1 + 1]? = some (.cells #[.int .i64 0, .int .i64 0, .slice none 0 0, .int .i64 0, .int .i64 0, .slice none 0 0, .slice none 0 0, .slice none 0 0, .slice none 0 0, .int .i64 0] 41 (0, 0)) := blk_new_at _ _ (by simp)
  have hkr : (((w.alloc (.cells #[.int .i64 d1, .int .i64 f1, .slice A1 ss1.length c1, .int .i64 d2, .int .i64 f2, .slice A2 ss2.length c2, .slice A3 st.length c3, .slice A4 P.length c4, .slice A5 pp.length c5, .int .i64 m] 31)).alloc (.cells #[.int .i64 0, .int .i64 0, .slice none 0 0, .int .i64 0, .int .i64 0, .slice none 0 0, .slice none 0 0, .slice none 0 0, .slice none 0 0, .int .i64 0] 41)).alloc (.cells #[.int .i64 0, .int .i64 0, .slice none 0 0, .int .i64 0, .int .i64 0, .slice none 0 0, .slice none 0 0, .slice none 0 0, .slice none 0 0, .int .i64 0] 41)).heap[w.heap.size + 1]? = some (.cells #[.int .i64 0, .int .i64 0, .slice none 0 0, .int .i64 0, .int .i64 0, .slice none 0 0, .slice none 0 0, .slice none 0 0, .slice none 0 0, .int .i64 0] 41 (0, 0)) := blk_alloc (blk_new_at _ _ (by simp)) _
  generalize (((w.alloc (.cells #[.int .i64 d1, .int .i64 f1, .slice A1 ss1.length c1, .int .i64 d2, .int .i64 f2, .slice A2 ss2.length c2, .slice A3 st.length c3, .slice A4 P.length c4, .slice A5 pp.length c5, .int .i64 m] 31)).alloc (.cells #[.int .i64 0, .int .i64 0, .slice none 0 0, .int .i64 0, .int .i64 0, .slice none 0 0, .slice none 0 0, .slice none 0 0, .slice none 0 0, .int .i64 0] 41)).alloc (.cells #[.int .i64 0, .int .i64 0, .slice none 0 0, .int .i64 0, .int .i64 0, .slice none 0 0, .slice none 0 0, .slice none 0 0, .slice none 0 0, .int .i64 0] 41)) = w0 at *
  have hs0 : w.heap.size + 3 ≤ w0.heap.size := by have := blk_lt hko; omega
  refine (u_toDraftW d1 f1 ss1 d2 f2 ss2 st B A1 A2 A3 c1 c2 c3 w0 (hS.d.below (hb0.mono hB)) (by omega)).mono ?_
  rintro e w1 ⟨B1, e1, B2, e2, B3, e3, rfl, ho1, hb1⟩
  have hka1 := blk_next hka hb1
  have hko1 := blk_next hko hb1
  have hkr1 := blk_next hkr hb1
  have hbw1 : Below w.heap.size w w1 := hb0.trans (hb1.mono (by omega))
  have hs1 := hb1.size
  clear hka hko hkr hb1 hb0
  obtain ⟨hx0, hx1, hx2, hx3, hx4, hx5, hx6, hx7, hx8, hx9, hxl⟩ := blk10 hka1
  obtain ⟨hy0, hy1, hy2, hy3, hy4, hy5, hy6, hy7, hy8, hy9, hyl⟩ := blk10 hko1
  obtain ⟨⟨hv0, hv1, hv2, hv3, hv4⟩, hv5, hv6, hv7, hv8, hv9⟩ := blk10f hko1
  go_wp2_with fail
  clear hx0 hx1 hx2 hx3 hx4 hx5 hx6 hx7 hx8 hx9 hxl
  clear hy0 hy1 hy2 hy3 hy4 hy5 hy6 hy7 hy8 hy9 hyl
  clear hv0 hv1 hv2 hv3 hv4 hv5 hv6 hv7 hv8 hv9
  have hkos := blk10_set7 hko1 (.int .i64 d1) (.int .i64 f1) (.slice B1 ss1.length e1) (.int .i64 d2) (.int .i64 f2) (.slice B2 ss2.length e2) (.slice B3 st.length e3)
  have hkas := blk_other7 hka1 (show w.heap.size ≠ w.heap.size + 1 + 1 by omega) (.int .i64 d1) (.int .i64 f1) (.slice B1 ss1.length e1) (.int .i64 d2) (.int .i64 f2) (.slice B2 ss2.length e2) (.slice B3 st.length e3)
  have hkrs := blk_other7 hkr1 (show w.heap.size + 1 ≠ w.heap.size + 1 + 1 by omega) (.int .i64 d1) (.int .i64 f1) (.slice B1 ss1.length e1) (.int .i64 d2) (.int .i64 f2) (.slice B2 ss2.length e2) (.slice B3 st.length e3)
  have hos := ho1.box hko1 (by decide) (only7 (.int .i64 d1) (.int .i64 f1) (.slice B1 ss1.length e1) (.int .i64 d2) (.int .i64 f2) (.slice B2 ss2.length e2) (.slice B3 st.length e3))
  have hbs : Below w.heap.size w (((((((w1.setCell ⟨w.heap.size + 1 + 1, 0, none⟩ (.int .i64 d1)).setCell ⟨w.heap.size + 1 + 1, 1, none⟩ (.int .i64 f1)).setCell ⟨w.heap.size + 1 + 1, 2, none⟩ (.slice B1 ss1.length e1)).setCell ⟨w.heap.size + 1 + 1, 3, none⟩ (.int .i64 d2)).setCell ⟨w.heap.size + 1 + 1, 4, none⟩ (.int .i64 f2)).setCell ⟨w.heap.size + 1 + 1, 5, none⟩ (.slice B2 ss2.length e2)).setCell ⟨w.heap.size + 1 + 1, 6, none⟩ (.slice B3 st.length e3)) := only_below_B hbw1 (only7 _ _ _ _ _ _ _)
  have hss : (((((((w1.setCell ⟨w.heap.size + 1 + 1, 0, none⟩ (.int .i64 d1)).setCell ⟨w.heap.size + 1 + 1, 1, none⟩ (.int .i64 f1)).setCell ⟨w.heap.size + 1 + 1, 2, none⟩ (.slice B1 ss1.length e1)).setCell ⟨w.heap.size + 1 + 1, 3, none⟩ (.int .i64 d2)).setCell ⟨w.heap.size + 1 + 1, 4, none⟩ (.int .i64 f2)).setCell ⟨w.heap.size + 1 + 1, 5, none⟩ (.slice B2 ss2.length e2)).setCell ⟨w.heap.size + 1 + 1, 6, none⟩ (.slice B3 st.length e3)).heap.size = w1.heap.size := by simp [World.setCell]
  clear hbw1 hka1 hko1 hkr1 ho1
  generalize (((((((w1.setCell ⟨w.heap.size + 1 + 1, 0, none⟩ (.int .i64 d1)).setCell ⟨w.heap.size + 1 + 1, 1, none⟩ (.int .i64 f1)).setCell ⟨w.heap.size + 1 + 1, 2, none⟩ (.slice B1 ss1.length e1)).setCell ⟨w.heap.size + 1 + 1, 3, none⟩ (.int .i64 d2)).setCell ⟨w.heap.size + 1 + 1, 4, none⟩ (.int .i64 f2)).setCell ⟨w.heap.size + 1 + 1, 5, none⟩ (.slice B2 ss2.length e2)).setCell ⟨w.heap.size + 1 + 1, 6, none⟩ (.slice B3 st.length e3)) = w2 at *
  refine (u_toItemS2 P B A4 c4 L w2 HPL.out (hL.below (hbs.mono hB)) (by omega)).mono ?_
  rintro e w3 ⟨B4, e4, L3, rfl, hp3, hi3, hb3⟩
  have HP3 := Lib.hid hp3
  have hka3 := blk_next hkas hb3
  have hko3 := blk_next hkos hb3
  have hkr3 := blk_next hkrs hb3
  have ho3 := hos.below hb3
  have hbw3 : Below w.heap.size w w3 := hbs.trans (hb3.mono (by omega))
  have hs3 := hb3.size
  clear hkas hkos hkrs hos hbs hb3 hp3
  obtain ⟨hx0, hx1, hx2, hx3, hx4, hx5, hx6, hx7, hx8, hx9, hxl⟩ := blk10 hka3
  obtain ⟨hy0, hy1, hy2, hy3, hy4, hy5, hy6, hy7, hy8, hy9, hyl⟩ := blk10 hko3
  obtain ⟨⟨hv0, hv1, hv2, hv3, hv4⟩, hv5, hv6, hv7, hv8, hv9⟩ := blk10f hko3
  go_wp2_with fail
  clear hx0 hx1 hx2 hx3 hx4 hx5 hx6 hx7 hx8 hx9 hxl
  clear hy0 hy1 hy2 hy3 hy4 hy5 hy6 hy7 hy8 hy9 hyl
  clear hv0 hv1 hv2 hv3 hv4 hv5 hv6 hv7 hv8 hv9
  have hkos : (w3.setCell ⟨w.heap.size + 1 + 1, 7, none⟩ (.slice B4 P.length e4)).heap[w.heap.size + 1 + 1]? = some (.cells #[.int .i64 d1, .int .i64 f1, .slice B1 ss1.length e1, .int .i64 d2, .int .i64 f2, .slice B2 ss2.length e2, .slice B3 st.length e3, .slice B4 P.length e4, .slice none 0 0, .int .i64 0] 41 (0, 0)) := by have := blk_set hko3 7 (.slice B4 P.length e4); simpa using this
  have hkas := blk_other (p := ⟨w.heap.size + 1 + 1, 7, none⟩) hka3 (show w.heap.size ≠ w.heap.size + 1 + 1 by omega) (.slice B4 P.length e4)
  have hkrs := blk_other (p := ⟨w.heap.size + 1 + 1, 7, none⟩) hkr3 (show w.heap.size + 1 ≠ w.heap.size + 1 + 1 by omega) (.slice B4 P.length e4)
  have hos := ho3.box hko3 (by decide) (only1 (i := 7) (.slice B4 P.length e4))
  have his := hi3.box hko3 (by decide) (only1 (i := 7) (.slice B4 P.length e4))
  have hbs : Below w.heap.size w (w3.setCell ⟨w.heap.size + 1 + 1, 7, none⟩ (.slice B4 P.length e4)) := only_below_B hbw3 (only1 _)
  have hss3 : (w3.setCell ⟨w.heap.size + 1 + 1, 7, none⟩ (.slice B4 P.length e4)).heap.size = w3.heap.size := by simp [World.setCell]
  clear hbw3 hka3 hko3 hkr3 ho3 hi3
  generalize (w3.setCell ⟨w.heap.size + 1 + 1, 7, none⟩ (.slice B4 P.length e4)) = w4 at *
  refine (u_toPaperS pp B A5 c5 w4 (hS.p.below (hbs.mono hB)) (by omega)).mono ?_
  rintro e w5 ⟨B5, e5, rfl, hp5, hb5⟩
  have hka5 := blk_next hkas hb5
  have hko5 := blk_next hkos hb5
  have hkr5 := blk_next hkrs hb5
  have ho5 := hos.below hb5
  have hi5 := his.below hb5
  have hbw5 : Below w.heap.size w w5 := hbs.trans (hb5.mono (by omega))
  have hs5 := hb5.size
  clear hkas hkos hkrs hos his hbs hb5
  obtain ⟨hx0, hx1, hx2, hx3, hx4, hx5, hx6, hx7, hx8, hx9, hxl⟩ := blk10 hka5
  obtain ⟨hy0, hy1, hy2, hy3, hy4, hy5, hy6, hy7, hy8, hy9, hyl⟩ := blk10 hko5
  obtain ⟨⟨hv0, hv1, hv2, hv3, hv4⟩, hv5, hv6, hv7, hv8, hv9⟩ := blk10f hko5
  obtain ⟨hr0, hr1, hr2, hr3, hr4, hr5, hr6, hr7, hr8, hr9, hrl⟩ := blk10 hkr5
  obtain ⟨⟨hu0, hu1, hu2, hu3, hu4⟩, hu5, hu6, hu7, hu8, hu9⟩ := blk10f hkr5
  go_wp2
  refine bodyPost_ret (v := .agg #[.int .i64 d1, .int .i64 f1, .slice B1 ss1.length e1, .int .i64 d2, .int .i64 f2, .slice B2 ss2.length e2, .slice B3 st.length e3, .slice B4 P.length e4, .slice B5 pp.length e5, .int .i64 m]) (by simp [results, Tryz.results17, go_sem, *]) rfl ?_
  have hbxo := boxAt_of hko5
  have hbxr := boxAt_of hkr5
  have hbx : Boxy w5 ((((((((((((w5.setCell ⟨w.heap.size + 1 + 1, 8, none⟩ (.slice B5 pp.length e5)).setCell ⟨w.heap.size + 1 + 1, 9, none⟩ (.int .i64 m)).setCell ⟨w.heap.size + 1, 0, none⟩ (.int .i64 d1)).setCell ⟨w.heap.size + 1, 1, none⟩ (.int .i64 f1)).setCell ⟨w.heap.size + 1, 2, none⟩ (.slice B1 ss1.length e1)).setCell ⟨w.heap.size + 1, 3, none⟩ (.int .i64 d2)).setCell ⟨w.heap.size + 1, 4, none⟩ (.int .i64 f2)).setCell ⟨w.heap.size + 1, 5, none⟩ (.slice B2 ss2.length e2)).setCell ⟨w.heap.size + 1, 6, none⟩ (.slice B3 st.length e3)).setCell ⟨w.heap.size + 1, 7, none⟩ (.slice B4 P.length e4)).setCell ⟨w.heap.size + 1, 8, none⟩ (.slice B5 pp.length e5)).setCell ⟨w.heap.size + 1, 9, none⟩ (.int .i64 m)) := (by repeat (first | (with_reducible exact Boxy.refl _) | (with_reducible refine Boxy.drew ?_) | (with_reducible refine Boxy.drewN ?_ _) | (with_reducible refine Boxy.alloc ?_ _) | ((with_reducible refine Boxy.setCell ?_ ?hbs _); (case hbs => first | (with_reducible exact .inl (by assumption)) | exact .inl (by assumption) | exact .inr (by simp) | exact .inr (by simp; omega)))))
  refine ⟨B1, e1, B2, e2, B3, e3, B4, e4, B5, e5, rfl, OwnW.mk3 (ho5.boxy hbx) HP3.out (hi5.boxy hbx) (hp5.boxy hbx) (by simp [World.setCell]; omega) (by omega), (by repeat (first | (with_reducible exact Below.refl _ _) | (with_reducible assumption) | (with_reducible exact (‹_ ∧ _ ∧ Below _ _ _›).2.2) | (with_reducible refine below_drewN ?_ _) | (with_reducible refine Below.drew ?_) | ((with_reducible refine Below.alloc ?_ ?hsd _); (case hsd => (first | exact Nat.le_refl _ | (simp; done) | omega | (simp; omega) | exact (‹_ ∧ _ ∧ Below _ _ _›).2.2.size))) | ((with_reducible refine Below.setCell ?_ ?hsd _); (case hsd => (first | exact Nat.le_refl _ | (simp; done) | omega | (simp; omega) | exact (‹_ ∧ _ ∧ Below _ _ _›).2.2.size))) | ((with_reducible refine Below.trans ?_ (Below.mono (by with_reducible assumption) ?hsd)); (case hsd => (first | exact Nat.le_refl _ | (simp; done) | omega | (simp; omega) | exact (‹_ ∧ _ ∧ Below _ _ _›).2.2.size))) | exact Below.refl _ _ | assumption | exact (‹_ ∧ _ ∧ Below _ _ _›).2.2 | refine below_drewN ?_ _ | refine Below.drew ?_ | refine Below.alloc ?_ (by first | exact Nat.le_refl _ | (simp; done) | omega | (simp; omega) | exact (‹_ ∧ _ ∧ Below _ _ _›).2.2.size) _ | refine Below.setCell ?_ (by first | exact Nat.le_refl _ | (simp; done) | omega | (simp; omega) | exact (‹_ ∧ _ ∧ Below _ _ _›).2.2.size) _ | refine Below.trans ?_ (Below.mono (by assumption) (by first | exact Nat.le_refl _ | (simp; done) | omega | (simp; omega) | exact (‹_ ∧ _ ∧ Below _ _ _›).2.2.size))))⟩
end Go.Proofs.YtdddglihomchfaaGreat
