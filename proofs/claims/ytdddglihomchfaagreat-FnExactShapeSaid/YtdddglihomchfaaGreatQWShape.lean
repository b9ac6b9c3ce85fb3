/- The walk of FnExactShape, for arguments that are not too large. -/
import Derived.Deep.DeepCutAuto
import Derived.Deep.RegionHeld3
import Derived.Deep.Slices
import Derived.Lib.SmallJoins
import Derived.SliceStrings
import Derived.Test.YtdddglihomchfaaGreatRows
import Derived.Test.YtdddglihomchfaaGreatQWork5Shapes
import Derived.Test.YtdddglihomchfaaGreatQWork5Shapei
import Derived.Test.YtdddglihomchfaaGreatQBm
import Derived.Test.YtdddglihomchfaaGreatQBb
namespace Go.Proofs.YtdddglihomchfaaGreat.fnExactShape
open Go.ChangeShapes Go.WideShapes Go.ChangeAt Go.RowKit Go.Joins Go.WideMaps Go.WideElems
open Go.ChangeMaps (open_string shut_string)
set_option linter.unusedVariables false
theorem leafR {wf w0 : World} {b g : Nat} {d1r f1r d2r f2r mr : Int} {ss1r ss2r : List ByteArray} {str : List PStep} {Pr : List PItem} {ppr : List PPaper} {A1_h0 : Option Addr} {c1_h0 : Nat} {A2_h0 : Option Addr} {c2_h0 : Nat} {A3_h0 : Option Addr} {c3_h0 : Nat} {A4_h0 : Option Addr} {c4_h0 : Nat} {A5_h0 : Option Addr} {c5_h0 : Nat} {z0 z1 z2 z3 z4 z5 z6 z7 z8 z9 : Value} (hk : wf.heap[g]? = some (.cells #[z0, z1, z2, z3, z4, z5, z6, z7, z8, z9] 41 (0, 0))) (ho : OwnW wf (b) (wf.heap.size) A1_h0 c1_h0 A2_h0 c2_h0 A3_h0 c3_h0 A4_h0 c4_h0 A5_h0 c5_h0 (PDraft.mk d1r f1r ss1r d2r f2r ss2r str) Pr ppr) (hb : Below b w0 wf) (hg : b ≤ g) :
    ((((((((((wf.setCell ⟨g, 0, none⟩ (.int .i64 d1r)).setCell ⟨g, 1, none⟩ (.int .i64 f1r)).setCell ⟨g, 2, none⟩ (.slice A1_h0 ss1r.length c1_h0)).setCell ⟨g, 3, none⟩ (.int .i64 d2r)).setCell ⟨g, 4, none⟩ (.int .i64 f2r)).setCell ⟨g, 5, none⟩ (.slice A2_h0 ss2r.length c2_h0)).setCell ⟨g, 6, none⟩ (.slice A3_h0 str.length c3_h0)).setCell ⟨g, 7, none⟩ (.slice A4_h0 Pr.length c4_h0)).setCell ⟨g, 8, none⟩ (.slice A5_h0 ppr.length c5_h0)).setCell ⟨g, 9, none⟩ (.int .i64 mr)).heap[g]? = some (.cells #[.int .i64 d1r, .int .i64 f1r, .slice A1_h0 ss1r.length c1_h0, .int .i64 d2r, .int .i64 f2r, .slice A2_h0 ss2r.length c2_h0, .slice A3_h0 str.length c3_h0, .slice A4_h0 Pr.length c4_h0, .slice A5_h0 ppr.length c5_h0, .int .i64 mr] 41 (0, 0)) ∧ OwnW ((((((((((wf.setCell ⟨g, 0, none⟩ (.int .i64 d1r)).setCell ⟨g, 1, none⟩ (.int .i64 f1r)).setCell ⟨g, 2, none⟩ (.slice A1_h0 ss1r.length c1_h0)).setCell ⟨g, 3, none⟩ (.int .i64 d2r)).setCell ⟨g, 4, none⟩ (.int .i64 f2r)).setCell ⟨g, 5, none⟩ (.slice A2_h0 ss2r.length c2_h0)).setCell ⟨g, 6, none⟩ (.slice A3_h0 str.length c3_h0)).setCell ⟨g, 7, none⟩ (.slice A4_h0 Pr.length c4_h0)).setCell ⟨g, 8, none⟩ (.slice A5_h0 ppr.length c5_h0)).setCell ⟨g, 9, none⟩ (.int .i64 mr)) (b) (((((((((((wf.setCell ⟨g, 0, none⟩ (.int .i64 d1r)).setCell ⟨g, 1, none⟩ (.int .i64 f1r)).setCell ⟨g, 2, none⟩ (.slice A1_h0 ss1r.length c1_h0)).setCell ⟨g, 3, none⟩ (.int .i64 d2r)).setCell ⟨g, 4, none⟩ (.int .i64 f2r)).setCell ⟨g, 5, none⟩ (.slice A2_h0 ss2r.length c2_h0)).setCell ⟨g, 6, none⟩ (.slice A3_h0 str.length c3_h0)).setCell ⟨g, 7, none⟩ (.slice A4_h0 Pr.length c4_h0)).setCell ⟨g, 8, none⟩ (.slice A5_h0 ppr.length c5_h0)).setCell ⟨g, 9, none⟩ (.int .i64 mr)).heap.size) A1_h0 c1_h0 A2_h0 c2_h0 A3_h0 c3_h0 A4_h0 c4_h0 A5_h0 c5_h0 (PDraft.mk d1r f1r ss1r d2r f2r ss2r str) Pr ppr ∧ Below b w0 ((((((((((wf.setCell ⟨g, 0, none⟩ (.int .i64 d1r)).setCell ⟨g, 1, none⟩ (.int .i64 f1r)).setCell ⟨g, 2, none⟩ (.slice A1_h0 ss1r.length c1_h0)).setCell ⟨g, 3, none⟩ (.int .i64 d2r)).setCell ⟨g, 4, none⟩ (.int .i64 f2r)).setCell ⟨g, 5, none⟩ (.slice A2_h0 ss2r.length c2_h0)).setCell ⟨g, 6, none⟩ (.slice A3_h0 str.length c3_h0)).setCell ⟨g, 7, none⟩ (.slice A4_h0 Pr.length c4_h0)).setCell ⟨g, 8, none⟩ (.slice A5_h0 ppr.length c5_h0)).setCell ⟨g, 9, none⟩ (.int .i64 mr)) := by
  refine ⟨blk10_set hk _ _ _ _ _ _ _ _ _ _, ?_, ?_⟩
  · exact (ho.box hk (by decide) (by repeat (first | (with_reducible exact World.grownBy.refl _ _) | (with_reducible refine only_setCell ?_ (.inl rfl) _)))).wide (Nat.le_refl _) (by simp [World.setCell])
  · exact bel
theorem leafN {wf w0 : World} {b g : Nat} {d1r f1r d2r f2r mr : Int} {ss1r ss2r : List ByteArray} {str : List PStep} {Pr : List PItem} {ppr : List PPaper} {A1_h0 : Option Addr} {c1_h0 : Nat} {A2_h0 : Option Addr} {c2_h0 : Nat} {A3_h0 : Option Addr} {c3_h0 : Nat} {A4_h0 : Option Addr} {c4_h0 : Nat} {A5_h0 : Option Addr} {c5_h0 : Nat} (hb : Below b w0 wf) (ho : OwnW wf (b) (wf.heap.size) A1_h0 c1_h0 A2_h0 c2_h0 A3_h0 c3_h0 A4_h0 c4_h0 A5_h0 c5_h0 (PDraft.mk d1r f1r ss1r d2r f2r ss2r str) Pr ppr) (hg : g = wf.heap.size) (hg2 : b ≤ g) :
    (wf.alloc (.cells #[.int .i64 d1r, .int .i64 f1r, .slice A1_h0 ss1r.length c1_h0, .int .i64 d2r, .int .i64 f2r, .slice A2_h0 ss2r.length c2_h0, .slice A3_h0 str.length c3_h0, .slice A4_h0 Pr.length c4_h0, .slice A5_h0 ppr.length c5_h0, .int .i64 mr] 41)).heap[g]? = some (.cells #[.int .i64 d1r, .int .i64 f1r, .slice A1_h0 ss1r.length c1_h0, .int .i64 d2r, .int .i64 f2r, .slice A2_h0 ss2r.length c2_h0, .slice A3_h0 str.length c3_h0, .slice A4_h0 Pr.length c4_h0, .slice A5_h0 ppr.length c5_h0, .int .i64 mr] 41 (0, 0)) ∧ OwnW (wf.alloc (.cells #[.int .i64 d1r, .int .i64 f1r, .slice A1_h0 ss1r.length c1_h0, .int .i64 d2r, .int .i64 f2r, .slice A2_h0 ss2r.length c2_h0, .slice A3_h0 str.length c3_h0, .slice A4_h0 Pr.length c4_h0, .slice A5_h0 ppr.length c5_h0, .int .i64 mr] 41)) (b) ((wf.alloc (.cells #[.int .i64 d1r, .int .i64 f1r, .slice A1_h0 ss1r.length c1_h0, .int .i64 d2r, .int .i64 f2r, .slice A2_h0 ss2r.length c2_h0, .slice A3_h0 str.length c3_h0, .slice A4_h0 Pr.length c4_h0, .slice A5_h0 ppr.length c5_h0, .int .i64 mr] 41)).heap.size) A1_h0 c1_h0 A2_h0 c2_h0 A3_h0 c3_h0 A4_h0 c4_h0 A5_h0 c5_h0 (PDraft.mk d1r f1r ss1r d2r f2r ss2r str) Pr ppr ∧ Below b w0 (wf.alloc (.cells #[.int .i64 d1r, .int .i64 f1r, .slice A1_h0 ss1r.length c1_h0, .int .i64 d2r, .int .i64 f2r, .slice A2_h0 ss2r.length c2_h0, .slice A3_h0 str.length c3_h0, .slice A4_h0 Pr.length c4_h0, .slice A5_h0 ppr.length c5_h0, .int .i64 mr] 41)) := by
  subst hg
  exact ⟨blk_new_at _ _ rfl, (ho.alloc _).wide (Nat.le_refl _) (by simp), bel⟩
set_option maxRecDepth 100000 in
set_option maxHeartbeats 16000000 in
theorem walkShape (d1 f1 : Int) (ss1 : List ByteArray) (d2 f2 : Int) (ss2 : List ByteArray) (st : List PStep) (P : List PItem) (pp : List PPaper) (m : Int) (A1 A2 A3 A4 A5 : Option Addr) (c1 c2 c3 c4 c5 : Nat) (K F L T I : Int) (bs as_ : ByteArray) (w : World) (hSW : RdWork0 w w.heap.size A1 A2 A3 A4 A5 (PDraft.mk d1 f1 ss1 d2 f2 ss2 st) P pp) (hnW : OkWork (PDraft.mk d1 f1 ss1 d2 f2 ss2 st) P pp 1048576) (hbs : bs.size ≤ 1048576) (has : as_.size ≤ 1048576) (hz1 : 0 ≤ szW (PDraft.mk d1 f1 ss1 d2 f2 ss2 st) P pp (1048576)) (hz2 : 0 ≤ szStep bs as_ (szW (PDraft.mk d1 f1 ss1 d2 f2 ss2 st) P pp (1048576))) :
    Calls Tryz.prog 7 #[.agg #[.int .i64 d1, .int .i64 f1, .slice A1 ss1.length c1, .int .i64 d2, .int .i64 f2, .slice A2 ss2.length c2, .slice A3 st.length c3, .slice A4 P.length c4, .slice A5 pp.length c5, .int .i64 m], .agg #[.int .i64 K, .int .i64 F, .int .i64 L, .int .i64 T, .int .i64 I, .string bs, .string as_]] w fun e w' => e = .returned (.bool true) ∧ Below w.heap.size w w' := by
  have hokW : OkWork (PDraft.mk d1 f1 ss1 d2 f2 ss2 st) P pp 1048576 := hnW
  have hrok : OkWork (PDraft.mk ((shapeRes (PWork.mk (PDraft.mk d1 f1 ss1 d2 f2 ss2 st) P pp m) (PStep.mk K F L T I bs as_)).1.D.d1) ((shapeRes (PWork.mk (PDraft.mk d1 f1 ss1 d2 f2 ss2 st) P pp m) (PStep.mk K F L T I bs as_)).1.D.f1) ((shapeRes (PWork.mk (PDraft.mk d1 f1 ss1 d2 f2 ss2 st) P pp m) (PStep.mk K F L T I bs as_)).1.D.ss1) ((shapeRes (PWork.mk (PDraft.mk d1 f1 ss1 d2 f2 ss2 st) P pp m) (PStep.mk K F L T I bs as_)).1.D.d2) ((shapeRes (PWork.mk (PDraft.mk d1 f1 ss1 d2 f2 ss2 st) P pp m) (PStep.mk K F L T I bs as_)).1.D.f2) ((shapeRes (PWork.mk (PDraft.mk d1 f1 ss1 d2 f2 ss2 st) P pp m) (PStep.mk K F L T I bs as_)).1.D.ss2) ((shapeRes (PWork.mk (PDraft.mk d1 f1 ss1 d2 f2 ss2 st) P pp m) (PStep.mk K F L T I bs as_)).1.D.st)) ((shapeRes (PWork.mk (PDraft.mk d1 f1 ss1 d2 f2 ss2 st) P pp m) (PStep.mk K F L T I bs as_)).1.P) ((shapeRes (PWork.mk (PDraft.mk d1 f1 ss1 d2 f2 ss2 st) P pp m) (PStep.mk K F L T I bs as_)).1.pp) 1048576 := by
    exact shapeRes_ok (PWork.mk (PDraft.mk d1 f1 ss1 d2 f2 ss2 st) P pp m) (PStep.mk K F L T I bs as_) hokW ⟨by show bs.size ≤ _; omega, by show as_.size ≤ _; omega⟩
  have hspec := fun (W : World) (A1_0W : Option Addr) (c1_0W : Nat) (A2_0W : Option Addr) (c2_0W : Nat) (A3_0W : Option Addr) (c3_0W : Nat) (A4_0W : Option Addr) (c4_0W : Nat) (A5_0W : Option Addr) (c5_0W : Nat) (h_0W : RdWork W W.heap.size A1_0W A2_0W A3_0W A4_0W c4_0W A5_0W (PDraft.mk d1 f1 ss1 d2 f2 ss2 st) P pp) => s_Shape d1 f1 ss1 d2 f2 ss2 st P pp m K F L T I bs as_ W.heap.size A1_0W A2_0W A3_0W A4_0W A5_0W c1_0W c2_0W c3_0W c4_0W c5_0W W h_0W (Nat.le_refl _) hokW (by omega) (by omega)
  have himpl := fun (W : World) (A1_0W : Option Addr) (c1_0W : Nat) (A2_0W : Option Addr) (c2_0W : Nat) (A3_0W : Option Addr) (c3_0W : Nat) (A4_0W : Option Addr) (c4_0W : Nat) (A5_0W : Option Addr) (c5_0W : Nat) (h_0W : RdWork W W.heap.size A1_0W A2_0W A3_0W A4_0W c4_0W A5_0W (PDraft.mk d1 f1 ss1 d2 f2 ss2 st) P pp) => i_Shape d1 f1 ss1 d2 f2 ss2 st P pp m K F L T I bs as_ W.heap.size A1_0W A2_0W A3_0W A4_0W A5_0W c1_0W c2_0W c3_0W c4_0W c5_0W W h_0W (Nat.le_refl _) hokW (by omega) (by omega)
  generalize hgen0 : ((shapeRes (PWork.mk (PDraft.mk d1 f1 ss1 d2 f2 ss2 st) P pp m) (PStep.mk K F L T I bs as_)).1.D.d1) = d1r at hspec himpl hrok
  generalize hgen1 : ((shapeRes (PWork.mk (PDraft.mk d1 f1 ss1 d2 f2 ss2 st) P pp m) (PStep.mk K F L T I bs as_)).1.D.f1) = f1r at hspec himpl hrok
  generalize hgen2 : ((shapeRes (PWork.mk (PDraft.mk d1 f1 ss1 d2 f2 ss2 st) P pp m) (PStep.mk K F L T I bs as_)).1.D.ss1) = ss1r at hspec himpl hrok
  generalize hgen3 : ((shapeRes (PWork.mk (PDraft.mk d1 f1 ss1 d2 f2 ss2 st) P pp m) (PStep.mk K F L T I bs as_)).1.D.d2) = d2r at hspec himpl hrok
  generalize hgen4 : ((shapeRes (PWork.mk (PDraft.mk d1 f1 ss1 d2 f2 ss2 st) P pp m) (PStep.mk K F L T I bs as_)).1.D.f2) = f2r at hspec himpl hrok
  generalize hgen5 : ((shapeRes (PWork.mk (PDraft.mk d1 f1 ss1 d2 f2 ss2 st) P pp m) (PStep.mk K F L T I bs as_)).1.D.ss2) = ss2r at hspec himpl hrok
  generalize hgen6 : ((shapeRes (PWork.mk (PDraft.mk d1 f1 ss1 d2 f2 ss2 st) P pp m) (PStep.mk K F L T I bs as_)).1.D.st) = str at hspec himpl hrok
  generalize hgen7 : ((shapeRes (PWork.mk (PDraft.mk d1 f1 ss1 d2 f2 ss2 st) P pp m) (PStep.mk K F L T I bs as_)).1.P) = Pr at hspec himpl hrok
  generalize hgen8 : ((shapeRes (PWork.mk (PDraft.mk d1 f1 ss1 d2 f2 ss2 st) P pp m) (PStep.mk K F L T I bs as_)).1.pp) = ppr at hspec himpl hrok
  generalize hgen9 : ((shapeRes (PWork.mk (PDraft.mk d1 f1 ss1 d2 f2 ss2 st) P pp m) (PStep.mk K F L T I bs as_)).1.m) = mr at hspec himpl hrok
  generalize hgen10 : ((shapeRes (PWork.mk (PDraft.mk d1 f1 ss1 d2 f2 ss2 st) P pp m) (PStep.mk K F L T I bs as_)).2) = rb at hspec himpl hrok
  clear hgen0 hgen1 hgen2 hgen3 hgen4 hgen5 hgen6 hgen7 hgen8 hgen9 hgen10
  have HSPEC := hide hspec
  have HIMPL := hide himpl
  clear hspec himpl
  have HOKW := hide hokW
  clear hokW
  have HOKR := hide hrok
  clear hrok
  go_enter Tryz.func7, Tryz.ntmps7
  go_wp2_with fail
  have hk_aW_w1 := (blk_alloc (blk_new_at w (.cells #[.int .i64 d1, .int .i64 f1, .slice A1 ss1.length c1, .int .i64 d2, .int .i64 f2, .slice A2 ss2.length c2, .slice A3 st.length c3, .slice A4 P.length c4, .slice A5 pp.length c5, .int .i64 m] 31) (k := w.heap.size) (by simp)) (.cells #[.int .i64 K, .int .i64 F, .int .i64 L, .int .i64 T, .int .i64 I, .string bs, .string as_] 60))
  have hk_aS_w1 := (blk_new_at (w.alloc (.cells #[.int .i64 d1, .int .i64 f1, .slice A1 ss1.length c1, .int .i64 d2, .int .i64 f2, .slice A2 ss2.length c2, .slice A3 st.length c3, .slice A4 P.length c4, .slice A5 pp.length c5, .int .i64 m] 31)) (.cells #[.int .i64 K, .int .i64 F, .int .i64 L, .int .i64 T, .int .i64 I, .string bs, .string as_] 60) (k := w.heap.size + 1) (by simp))
  have hbw_w1 : Below w.heap.size w ((w.alloc (.cells #[.int .i64 d1, .int .i64 f1, .slice A1 ss1.length c1, .int .i64 d2, .int .i64 f2, .slice A2 ss2.length c2, .slice A3 st.length c3, .slice A4 P.length c4, .slice A5 pp.length c5, .int .i64 m] 31)).alloc (.cells #[.int .i64 K, .int .i64 F, .int .i64 L, .int .i64 T, .int .i64 I, .string bs, .string as_] 60)) := bel
  have hsw_w1 := hbw_w1.size
  have hch_w1 : w.heap.size + 2 ≤ ((w.alloc (.cells #[.int .i64 d1, .int .i64 f1, .slice A1 ss1.length c1, .int .i64 d2, .int .i64 f2, .slice A2 ss2.length c2, .slice A3 st.length c3, .slice A4 P.length c4, .slice A5 pp.length c5, .int .i64 m] 31)).alloc (.cells #[.int .i64 K, .int .i64 F, .int .i64 L, .int .i64 T, .int .i64 I, .string bs, .string as_] 60)).heap.size := (by simp; try omega)
  generalize ((w.alloc (.cells #[.int .i64 d1, .int .i64 f1, .slice A1 ss1.length c1, .int .i64 d2, .int .i64 f2, .slice A2 ss2.length c2, .slice A3 st.length c3, .slice A4 P.length c4, .slice A5 pp.length c5, .int .i64 m] 31)).alloc (.cells #[.int .i64 K, .int .i64 F, .int .i64 L, .int .i64 T, .int .i64 I, .string bs, .string as_] 60)) = w1 at *
  refine (l_szWorkshop d1 f1 ss1 d2 f2 ss2 st P pp m w.heap.size A1 A2 A3 A4 A5 c1 c2 c3 c4 c5 (1048576) _ hsw_w1 (hSW.raw.below hbw_w1) (by omega) (by omega)).mono ?_
  rintro e w2 ⟨rfl, hb_w2⟩
  have hk_aW_w2 := blk_next hk_aW_w1 hb_w2
  have hk_aS_w2 := blk_next hk_aS_w1 hb_w2
  have hbw_w2 : Below w.heap.size w w2 := hbw_w1.trans (Below.mono hb_w2 hsw_w1)
  have hsw_w2 := hbw_w2.size
  have hch_w2 : w1.heap.size ≤ w2.heap.size := hb_w2.size
  clear hk_aW_w1 hk_aS_w1 hbw_w1 hsw_w1 hb_w2
  have hub_w2 : szW (PDraft.mk d1 f1 ss1 d2 f2 ss2 st) P pp (1048576) ≤ 1048576 := szW_ub _ _ _ _ (by omega)
  obtain ⟨hx0_aS, hx1_aS, hx2_aS, hx3_aS, hx4_aS, hx5_aS, hx6_aS, hxl_aS⟩ := blk7 hk_aS_w2
  go_wp2_with fail
  refine (l_szStep K F L T I bs as_ (szW (PDraft.mk d1 f1 ss1 d2 f2 ss2 st) P pp (1048576)) _ (by omega) (by omega) (by omega) (by omega)).mono ?_
  rintro e w3 ⟨rfl, hb_w3⟩
  clear hx0_aS hx1_aS hx2_aS hx3_aS hx4_aS hx5_aS hx6_aS hxl_aS
  have hk_aW_w3 := blk_next hk_aW_w2 hb_w3
  have hk_aS_w3 := blk_next hk_aS_w2 hb_w3
  have hbw_w3 : Below w.heap.size w w3 := hbw_w2.trans (Below.mono hb_w3 hsw_w2)
  have hsw_w3 := hbw_w3.size
  have hch_w3 : w2.heap.size ≤ w3.heap.size := hb_w3.size
  clear hk_aW_w2 hk_aS_w2 hbw_w2 hsw_w2 hb_w3
  have hub_w3 : szStep bs as_ (szW (PDraft.mk d1 f1 ss1 d2 f2 ss2 st) P pp (1048576)) ≤ 1048576 := sz_ub_step _ _ _ (by omega)
  obtain ⟨hx0_aW, hx1_aW, hx2_aW, hx3_aW, hx4_aW, hx5_aW, hx6_aW, hx7_aW, hx8_aW, hx9_aW, hxl_aW⟩ := blk10 hk_aW_w3
  obtain ⟨hx0_aS, hx1_aS, hx2_aS, hx3_aS, hx4_aS, hx5_aS, hx6_aS, hxl_aS⟩ := blk7 hk_aS_w3
  go_upto_region 8 with fail
  have hSW_c := hSW.below hbw_w3
  go_cut [6, 7] (fun s6 s7 wx => ∃ (g_w0 : Nat) (A1_w0 : Option Addr) (c1_w0 : Nat) (A2_w0 : Option Addr) (c2_w0 : Nat) (A3_w0 : Option Addr) (c3_w0 : Nat) (A4_w0 : Option Addr) (c4_w0 : Nat) (A5_w0 : Option Addr) (c5_w0 : Nat), s6 = .pointer (some ⟨g_w0, 0, none⟩) ∧ s7 = .bool rb ∧ wx.heap[g_w0]? = some (.cells #[.int .i64 d1r, .int .i64 f1r, .slice A1_w0 ss1r.length c1_w0, .int .i64 d2r, .int .i64 f2r, .slice A2_w0 ss2r.length c2_w0, .slice A3_w0 str.length c3_w0, .slice A4_w0 Pr.length c4_w0, .slice A5_w0 ppr.length c5_w0, .int .i64 mr] 41 (0, 0)) ∧ OwnW wx (w3.heap.size) (wx.heap.size) A1_w0 c1_w0 A2_w0 c2_w0 A3_w0 c3_w0 A4_w0 c4_w0 A5_w0 c5_w0 (PDraft.mk d1r f1r ss1r d2r f2r ss2r str) Pr ppr ∧ Below w3.heap.size w3 wx)
  case first =>
    go_region_held3 (fun W => (∀ b o, b < w3.heap.size → W.cell? ⟨b, o, none⟩ = (w3).cell? ⟨b, o, none⟩) ∧ (∀ b o, b < w3.heap.size → W.frozen? ⟨b, o, none⟩ = (w3).frozen? ⟨b, o, none⟩) ∧ Below (w3.heap.size) (w3) W) (exact keep_of bel) (first | (go_at_call 17; have hq := (‹_ ∧ _ ∧ Below _ _ _›).2.2; refine (u_toWorkshop d1 f1 ss1 d2 f2 ss2 st P pp m w.heap.size A1 A2 A3 A4 A5 c1 c2 c3 c4 c5 _ ?_ ?_).mono ?_; exact hSW_c.below (hq.mono hsw_w3); exact Nat.le_trans hsw_w3 hq.size; rintro e wt1_0 ⟨A1_t1_0, c1_t1_0, A2_t1_0, c2_t1_0, A3_t1_0, c3_t1_0, A4_t1_0, c4_t1_0, A5_t1_0, c5_t1_0, rfl, hor1_0, hbt1_0⟩; (have hot1_0 := hor1_0.wide (lo' := w3.heap.size) (hi' := wt1_0.heap.size) (by first | exact hq.size | exact Nat.le_refl _) (Nat.le_refl _)); clear hor1_0; have hqs1_0 := hq.size; have hbs1_0 := hbt1_0.size; (try simp at hqs1_0); (try simp at hbs1_0); obtain ⟨hcb1_0, hfb1_0⟩ := bcell hbt1_0; (try (have hzl_w3_1_0 : w3.heap.size < wt1_0.heap.size := (by omega)))) | (go_at_call 34; have hq := (‹_ ∧ _ ∧ Below _ _ _›).2.2; refine (l_toStep K F L T I bs as_ _).mono ?_; rintro e wt1_1 ⟨rfl, hbt1_1⟩; have hqs1_1 := hq.size; have hbs1_1 := hbt1_1.size; (try simp at hqs1_1); (try simp at hbs1_1); (have hot1_0 : OwnW wt1_1 (w3.heap.size) (wt1_0.heap.size) A1_t1_0 c1_t1_0 A2_t1_0 c2_t1_0 A3_t1_0 c3_t1_0 A4_t1_0 c4_t1_0 A5_t1_0 c5_t1_0 (PDraft.mk d1 f1 ss1 d2 f2 ss2 st) P pp := (by first | exact hot1_0.below hbt1_1 | exact (hot1_0.alloc _).below hbt1_1)); obtain ⟨hcb1_1, hfb1_1⟩ := bcell hbt1_1; (try (have hzl_w3_1_1 : w3.heap.size < wt1_1.heap.size := (by omega))); (try (have hzl_wt1_0_1_1 : wt1_0.heap.size < wt1_1.heap.size := (by omega)))) | (go_at_call 33; have hqf := (‹_ ∧ _ ∧ Below _ _ _›).2.2; (first | refine (unhide HSPEC _ _ _ _ _ _ _ _ _ _ _ (hot1_0.rd ((unhide HOKW).more (by omega)))).mono ?_ | refine (unhide HSPEC _ _ _ _ _ _ _ _ _ _ _ ((hot1_0.alloc _).rd ((unhide HOKW).more (by omega)))).mono ?_); rintro e wf1 ⟨A1_f1, c1_f1, A2_f1, c2_f1, A3_f1, c3_f1, A4_f1, c4_f1, A5_f1, c5_f1, rfl, horf1, hbf1⟩; (have hof1 := horf1.wide (lo' := w3.heap.size) (hi' := wf1.heap.size) (by first | exact hqf.size | exact Nat.le_refl _) (Nat.le_refl _)); clear horf1; have hqsf := hqf.size; have hbsf := hbf1.size; (try simp at hqsf); (try simp at hbsf); obtain ⟨hcbf1, hfbf1⟩ := bcell hbf1; (try (have hzl_w3_f : w3.heap.size < wf1.heap.size := (by omega))); (try (have hzl_wt1_0_f : wt1_0.heap.size < wf1.heap.size := (by omega))); (try (have hzl_wt1_1_f : wt1_1.heap.size < wf1.heap.size := (by omega)))))
    all_goals (go_wp2_with fail)
    all_goals (go_meet)
    all_goals (
      refine ⟨_, A1_f1, c1_f1, A2_f1, c2_f1, A3_f1, c3_f1, A4_f1, c4_f1, A5_f1, c5_f1, rfl, rfl, ?_⟩
      first
        | ((with_reducible refine leafN ?_ hof1 ?_ ?_); (first | exact bel); (first | rfl | (simp; first | done | fail)); (first | omega | (simp; first | done | fail) | (simp; omega)))
        | ((with_reducible apply leafR (ho := hof1)); (case hk => (focus ((repeat (first | (with_reducible exact blk_new_at _ _ (by first | rfl | (simp; first | done | fail))) | (with_reducible refine blk_next ?_ hbf1) | (with_reducible refine blk_next ?_ hbt1_1) | (with_reducible refine blk_next ?_ hbt1_0) | (with_reducible refine blk_drew ?_) | (with_reducible refine blk_alloc ?_ _))); (first | done | fail)))); (case hb => exact bel); (case hg => first | omega | (simp; first | done | fail) | (simp; omega))))
  obtain ⟨g_w0, A1_w0, c1_w0, A2_w0, c2_w0, A3_w0, c3_w0, A4_w0, c4_w0, A5_w0, c5_w0, rfl, rfl, hkn, hon, hbn⟩ := hcut
  obtain ⟨w4, hwc⟩ : ∃ W, W = wc := ⟨_, rfl⟩
  subst hwc
  clear hx0_aW hx1_aW hx2_aW hx3_aW hx4_aW hx5_aW hx6_aW hx7_aW hx8_aW hx9_aW hxl_aW hx0_aS hx1_aS hx2_aS hx3_aS hx4_aS hx5_aS hx6_aS hxl_aS
  have hk_aW_w4 := blk_next hk_aW_w3 hbn
  have hk_aS_w4 := blk_next hk_aS_w3 hbn
  have hbw_w4 : Below w.heap.size w w4 := hbw_w3.trans (Below.mono hbn hsw_w3)
  have hsw_w4 := hbw_w4.size
  have hch_w4 : w3.heap.size ≤ w4.heap.size := hbn.size
  clear hk_aW_w3 hk_aS_w3 hbw_w3 hsw_w3 hbn
  have ho_w0_w4 := hon
  clear hon
  have hk_w0_w4 := hkn
  clear hkn
  clear hSW_c
  obtain ⟨hx0_aW, hx1_aW, hx2_aW, hx3_aW, hx4_aW, hx5_aW, hx6_aW, hx7_aW, hx8_aW, hx9_aW, hxl_aW⟩ := blk10 hk_aW_w4
  go_wp2_with fail
  refine (u_toWorkshop d1 f1 ss1 d2 f2 ss2 st P pp m w.heap.size A1 A2 A3 A4 A5 c1 c2 c3 c4 c5 _ (hSW.below hbw_w4) hsw_w4).mono ?_
  rintro e w5 ⟨A1_x0, c1_x0, A2_x0, c2_x0, A3_x0, c3_x0, A4_x0, c4_x0, A5_x0, c5_x0, rfl, hon, hb_w5⟩
  clear hx0_aW hx1_aW hx2_aW hx3_aW hx4_aW hx5_aW hx6_aW hx7_aW hx8_aW hx9_aW hxl_aW
  have hk_aW_w5 := blk_next hk_aW_w4 hb_w5
  have hk_aS_w5 := blk_next hk_aS_w4 hb_w5
  have hk_w0_w5 := blk_next hk_w0_w4 hb_w5
  have ho_w0_w5 := ho_w0_w4.below hb_w5
  have hbw_w5 : Below w.heap.size w w5 := hbw_w4.trans (Below.mono hb_w5 hsw_w4)
  have hsw_w5 := hbw_w5.size
  have hch_w5 : w4.heap.size ≤ w5.heap.size := hb_w5.size
  clear hk_aW_w4 hk_aS_w4 hk_w0_w4 ho_w0_w4 hbw_w4 hsw_w4 hb_w5
  have ho_x0_w5 := hon
  clear hon
  obtain ⟨hx0_aS, hx1_aS, hx2_aS, hx3_aS, hx4_aS, hx5_aS, hx6_aS, hxl_aS⟩ := blk7 hk_aS_w5
  go_upto_region 10 with fail
  clear hx0_aS hx1_aS hx2_aS hx3_aS hx4_aS hx5_aS hx6_aS hxl_aS
  have hk_aW_w6 := (blk_alloc hk_aW_w5 (.cells #[.int .i64 d1, .int .i64 f1, .slice A1_x0 ss1.length c1_x0, .int .i64 d2, .int .i64 f2, .slice A2_x0 ss2.length c2_x0, .slice A3_x0 st.length c3_x0, .slice A4_x0 P.length c4_x0, .slice A5_x0 pp.length c5_x0, .int .i64 m] 41))
  have hk_aS_w6 := (blk_alloc hk_aS_w5 (.cells #[.int .i64 d1, .int .i64 f1, .slice A1_x0 ss1.length c1_x0, .int .i64 d2, .int .i64 f2, .slice A2_x0 ss2.length c2_x0, .slice A3_x0 st.length c3_x0, .slice A4_x0 P.length c4_x0, .slice A5_x0 pp.length c5_x0, .int .i64 m] 41))
  have hk_w0_w6 := (blk_alloc hk_w0_w5 (.cells #[.int .i64 d1, .int .i64 f1, .slice A1_x0 ss1.length c1_x0, .int .i64 d2, .int .i64 f2, .slice A2_x0 ss2.length c2_x0, .slice A3_x0 st.length c3_x0, .slice A4_x0 P.length c4_x0, .slice A5_x0 pp.length c5_x0, .int .i64 m] 41))
  have hk_x0_w6 := (blk_new_at w5 (.cells #[.int .i64 d1, .int .i64 f1, .slice A1_x0 ss1.length c1_x0, .int .i64 d2, .int .i64 f2, .slice A2_x0 ss2.length c2_x0, .slice A3_x0 st.length c3_x0, .slice A4_x0 P.length c4_x0, .slice A5_x0 pp.length c5_x0, .int .i64 m] 41) (k := w5.heap.size) (by simp))
  have ho_w0_w6 := (ho_w0_w5.alloc (.cells #[.int .i64 d1, .int .i64 f1, .slice A1_x0 ss1.length c1_x0, .int .i64 d2, .int .i64 f2, .slice A2_x0 ss2.length c2_x0, .slice A3_x0 st.length c3_x0, .slice A4_x0 P.length c4_x0, .slice A5_x0 pp.length c5_x0, .int .i64 m] 41))
  have ho_x0_w6 := (ho_x0_w5.alloc (.cells #[.int .i64 d1, .int .i64 f1, .slice A1_x0 ss1.length c1_x0, .int .i64 d2, .int .i64 f2, .slice A2_x0 ss2.length c2_x0, .slice A3_x0 st.length c3_x0, .slice A4_x0 P.length c4_x0, .slice A5_x0 pp.length c5_x0, .int .i64 m] 41))
  have hbw_w6 : Below w.heap.size w (w5.alloc (.cells #[.int .i64 d1, .int .i64 f1, .slice A1_x0 ss1.length c1_x0, .int .i64 d2, .int .i64 f2, .slice A2_x0 ss2.length c2_x0, .slice A3_x0 st.length c3_x0, .slice A4_x0 P.length c4_x0, .slice A5_x0 pp.length c5_x0, .int .i64 m] 41)) := bel
  have hsw_w6 := hbw_w6.size
  have hch_w6 : w5.heap.size + 1 ≤ (w5.alloc (.cells #[.int .i64 d1, .int .i64 f1, .slice A1_x0 ss1.length c1_x0, .int .i64 d2, .int .i64 f2, .slice A2_x0 ss2.length c2_x0, .slice A3_x0 st.length c3_x0, .slice A4_x0 P.length c4_x0, .slice A5_x0 pp.length c5_x0, .int .i64 m] 41)).heap.size := (by simp; try omega)
  generalize (w5.alloc (.cells #[.int .i64 d1, .int .i64 f1, .slice A1_x0 ss1.length c1_x0, .int .i64 d2, .int .i64 f2, .slice A2_x0 ss2.length c2_x0, .slice A3_x0 st.length c3_x0, .slice A4_x0 P.length c4_x0, .slice A5_x0 pp.length c5_x0, .int .i64 m] 41)) = w6 at *
  clear hk_aW_w5 hk_aS_w5 hk_w0_w5 ho_w0_w5 ho_x0_w5 hbw_w5 hsw_w5
  obtain ⟨hx0_aS, hx1_aS, hx2_aS, hx3_aS, hx4_aS, hx5_aS, hx6_aS, hxl_aS⟩ := blk7 hk_aS_w6
  obtain ⟨hx0_x0, hx1_x0, hx2_x0, hx3_x0, hx4_x0, hx5_x0, hx6_x0, hx7_x0, hx8_x0, hx9_x0, hxl_x0⟩ := blk10 hk_x0_w6
  go_cut [9, 10] (fun s9 s10 wx => ∃ (g_g0 : Nat) (A1_g0 : Option Addr) (c1_g0 : Nat) (A2_g0 : Option Addr) (c2_g0 : Nat) (A3_g0 : Option Addr) (c3_g0 : Nat) (A4_g0 : Option Addr) (c4_g0 : Nat) (A5_g0 : Option Addr) (c5_g0 : Nat), s9 = .pointer (some ⟨g_g0, 0, none⟩) ∧ s10 = .bool rb ∧ wx.heap[g_g0]? = some (.cells #[.int .i64 d1r, .int .i64 f1r, .slice A1_g0 ss1r.length c1_g0, .int .i64 d2r, .int .i64 f2r, .slice A2_g0 ss2r.length c2_g0, .slice A3_g0 str.length c3_g0, .slice A4_g0 Pr.length c4_g0, .slice A5_g0 ppr.length c5_g0, .int .i64 mr] 41 (0, 0)) ∧ OwnW wx (w6.heap.size) (wx.heap.size) A1_g0 c1_g0 A2_g0 c2_g0 A3_g0 c3_g0 A4_g0 c4_g0 A5_g0 c5_g0 (PDraft.mk d1r f1r ss1r d2r f2r ss2r str) Pr ppr ∧ Below w6.heap.size w6 wx)
  case first =>
    go_region_held3 (fun W => (∀ b o, b < w6.heap.size → W.cell? ⟨b, o, none⟩ = (w6).cell? ⟨b, o, none⟩) ∧ (∀ b o, b < w6.heap.size → W.frozen? ⟨b, o, none⟩ = (w6).frozen? ⟨b, o, none⟩) ∧ Below (w6.heap.size) (w6) W) (exact keep_of bel) (first | (go_at_call 34; have hq := (‹_ ∧ _ ∧ Below _ _ _›).2.2; refine (l_toStep K F L T I bs as_ _).mono ?_; rintro e wt2_0 ⟨rfl, hbt2_0⟩; have hqs2_0 := hq.size; have hbs2_0 := hbt2_0.size; (try simp at hqs2_0); (try simp at hbs2_0); obtain ⟨hcb2_0, hfb2_0⟩ := bcell hbt2_0; (try (have hzl_w6_2_0 : w6.heap.size < wt2_0.heap.size := (by omega)))) | (go_at_call 35; have hqf := (‹_ ∧ _ ∧ Below _ _ _›).2.2; (first | refine (unhide HIMPL _ _ _ _ _ _ _ _ _ _ _ ((ho_x0_w6.below hqf).rd ((unhide HOKW).more (by omega)))).mono ?_); rintro e wf2 ⟨A1_f2, c1_f2, A2_f2, c2_f2, A3_f2, c3_f2, A4_f2, c4_f2, A5_f2, c5_f2, rfl, horf2, hbf2⟩; (have hof2 := horf2.wide (lo' := w6.heap.size) (hi' := wf2.heap.size) (by first | exact hqf.size | exact Nat.le_refl _) (Nat.le_refl _)); clear horf2; have hqsf := hqf.size; have hbsf := hbf2.size; (try simp at hqsf); (try simp at hbsf); obtain ⟨hcbf2, hfbf2⟩ := bcell hbf2; (try (have hzl_w6_f : w6.heap.size < wf2.heap.size := (by omega))); (try (have hzl_wt2_0_f : wt2_0.heap.size < wf2.heap.size := (by omega)))))
    all_goals (go_wp2_with fail)
    all_goals (go_meet)
    all_goals (
      refine ⟨_, A1_f2, c1_f2, A2_f2, c2_f2, A3_f2, c3_f2, A4_f2, c4_f2, A5_f2, c5_f2, rfl, rfl, ?_⟩
      first
        | ((with_reducible refine leafN ?_ hof2 ?_ ?_); (first | exact bel); (first | rfl | (simp; first | done | fail)); (first | omega | (simp; first | done | fail) | (simp; omega)))
        | ((with_reducible apply leafR (ho := hof2)); (case hk => (focus ((repeat (first | (with_reducible exact blk_new_at _ _ (by first | rfl | (simp; first | done | fail))) | (with_reducible refine blk_next ?_ hbf2) | (with_reducible refine blk_next ?_ hbt2_0) | (with_reducible refine blk_drew ?_) | (with_reducible refine blk_alloc ?_ _))); (first | done | fail)))); (case hb => exact bel); (case hg => first | omega | (simp; first | done | fail) | (simp; omega))))
  obtain ⟨g_g0, A1_g0, c1_g0, A2_g0, c2_g0, A3_g0, c3_g0, A4_g0, c4_g0, A5_g0, c5_g0, rfl, rfl, hkn, hon, hbn⟩ := hcut
  obtain ⟨w7, hwc⟩ : ∃ W, W = wc := ⟨_, rfl⟩
  subst hwc
  clear hx0_aS hx1_aS hx2_aS hx3_aS hx4_aS hx5_aS hx6_aS hxl_aS hx0_x0 hx1_x0 hx2_x0 hx3_x0 hx4_x0 hx5_x0 hx6_x0 hx7_x0 hx8_x0 hx9_x0 hxl_x0
  have hk_aW_w7 := blk_next hk_aW_w6 hbn
  have hk_aS_w7 := blk_next hk_aS_w6 hbn
  have hk_w0_w7 := blk_next hk_w0_w6 hbn
  have hk_x0_w7 := blk_next hk_x0_w6 hbn
  have ho_w0_w7 := ho_w0_w6.below hbn
  have ho_x0_w7 := ho_x0_w6.below hbn
  have hbw_w7 : Below w.heap.size w w7 := hbw_w6.trans (Below.mono hbn hsw_w6)
  have hsw_w7 := hbw_w7.size
  have hch_w7 : w6.heap.size ≤ w7.heap.size := hbn.size
  clear hk_aW_w6 hk_aS_w6 hk_w0_w6 hk_x0_w6 ho_w0_w6 ho_x0_w6 hbw_w6 hsw_w6 hbn
  have ho_g0_w7 := hon
  clear hon
  have hk_g0_w7 := hkn
  clear hkn
  obtain ⟨hx0_w0, hx1_w0, hx2_w0, hx3_w0, hx4_w0, hx5_w0, hx6_w0, hx7_w0, hx8_w0, hx9_w0, hxl_w0⟩ := blk10 hk_w0_w7
  obtain ⟨hx0_g0, hx1_g0, hx2_g0, hx3_g0, hx4_g0, hx5_g0, hx6_g0, hx7_g0, hx8_g0, hx9_g0, hxl_g0⟩ := blk10 hk_g0_w7
  go_wp2_with fail
  refine (u_eqWorkshop d1r f1r ss1r d2r f2r ss2r str Pr ppr mr _ _ _ _ _ _ _ _ _ _ _ _ _ _ _ _ _ _ _ _ _ _ _ _ _ ho_g0_w7 ho_w0_w7 ((unhide HOKR).more (by omega))).mono ?_
  rintro e w8 ⟨rfl, hb_w8⟩
  clear hx0_w0 hx1_w0 hx2_w0 hx3_w0 hx4_w0 hx5_w0 hx6_w0 hx7_w0 hx8_w0 hx9_w0 hxl_w0 hx0_g0 hx1_g0 hx2_g0 hx3_g0 hx4_g0 hx5_g0 hx6_g0 hx7_g0 hx8_g0 hx9_g0 hxl_g0
  have hk_aW_w8 := blk_next hk_aW_w7 hb_w8
  have hk_aS_w8 := blk_next hk_aS_w7 hb_w8
  have hk_w0_w8 := blk_next hk_w0_w7 hb_w8
  have hk_x0_w8 := blk_next hk_x0_w7 hb_w8
  have hk_g0_w8 := blk_next hk_g0_w7 hb_w8
  have ho_w0_w8 := ho_w0_w7.below hb_w8
  have ho_x0_w8 := ho_x0_w7.below hb_w8
  have ho_g0_w8 := ho_g0_w7.below hb_w8
  have hbw_w8 : Below w.heap.size w w8 := hbw_w7.trans (Below.mono hb_w8 hsw_w7)
  have hsw_w8 := hbw_w8.size
  have hch_w8 : w7.heap.size ≤ w8.heap.size := hb_w8.size
  clear hk_aW_w7 hk_aS_w7 hk_w0_w7 hk_x0_w7 hk_g0_w7 ho_w0_w7 ho_x0_w7 ho_g0_w7 hbw_w7 hsw_w7 hb_w8
  obtain ⟨hx0_aW, hx1_aW, hx2_aW, hx3_aW, hx4_aW, hx5_aW, hx6_aW, hx7_aW, hx8_aW, hx9_aW, hxl_aW⟩ := blk10 hk_aW_w8
  obtain ⟨hx0_x0, hx1_x0, hx2_x0, hx3_x0, hx4_x0, hx5_x0, hx6_x0, hx7_x0, hx8_x0, hx9_x0, hxl_x0⟩ := blk10 hk_x0_w8
  go_wp2_with fail
  have hS_c := hSW.below hbw_w8
  go_region_held3 (fun W => (∀ b o, b < w8.heap.size → W.cell? ⟨b, o, none⟩ = (w8).cell? ⟨b, o, none⟩) ∧ (∀ b o, b < w8.heap.size → W.frozen? ⟨b, o, none⟩ = (w8).frozen? ⟨b, o, none⟩) ∧ Below (w8.heap.size) (w8) W) (exact keep_of bel) (first | (go_at_call 17; have hq := (‹_ ∧ _ ∧ Below _ _ _›).2.2; refine (u_toWorkshop d1 f1 ss1 d2 f2 ss2 st P pp m w.heap.size A1 A2 A3 A4 A5 c1 c2 c3 c4 c5 _ ?_ ?_).mono ?_; exact hS_c.below (hq.mono hsw_w8); exact Nat.le_trans hsw_w8 hq.size; rintro e wa_w9 ⟨A1_aw9, c1_aw9, A2_aw9, c2_aw9, A3_aw9, c3_aw9, A4_aw9, c4_aw9, A5_aw9, c5_aw9, rfl, hoa, hba⟩) | (go_at_call 19; have hq2 := (‹_ ∧ _ ∧ Below _ _ _›).2.2; (first | refine (u_eqWorkshop d1 f1 ss1 d2 f2 ss2 st P pp m _ _ _ _ _ _ _ _ _ _ _ _ _ _ _ _ _ _ _ _ _ _ _ _ _ (ho_x0_w8.below hq2) hoa ((unhide HOKW).more (by omega))).mono ?_ | refine (u_eqWorkshop d1 f1 ss1 d2 f2 ss2 st P pp m _ _ _ _ _ _ _ _ _ _ _ _ _ _ _ _ _ _ _ _ _ _ _ _ _ (ho_x0_w8.below hq2) hoa.drew ((unhide HOKW).more (by omega))).mono ?_); rintro e w9 ⟨rfl, hbz⟩))
  have hb67 : Below w8.heap.size w8 wa_w9 := (Below.refl _ _).drew.trans hba
  have hz7 : w8.heap.size ≤ wa_w9.heap.size := hba.size
  have hb68 : Below w8.heap.size w8 w9 := hb67.trans (hbz.mono hz7)
  clear hS_c hoa hba hbz hb67 hz7
  clear hx0_aW hx1_aW hx2_aW hx3_aW hx4_aW hx5_aW hx6_aW hx7_aW hx8_aW hx9_aW hxl_aW hx0_x0 hx1_x0 hx2_x0 hx3_x0 hx4_x0 hx5_x0 hx6_x0 hx7_x0 hx8_x0 hx9_x0 hxl_x0
  have hk_aW_w9 := blk_next hk_aW_w8 hb68
  have hk_aS_w9 := blk_next hk_aS_w8 hb68
  have hk_w0_w9 := blk_next hk_w0_w8 hb68
  have hk_x0_w9 := blk_next hk_x0_w8 hb68
  have hk_g0_w9 := blk_next hk_g0_w8 hb68
  have ho_w0_w9 := ho_w0_w8.below hb68
  have ho_x0_w9 := ho_x0_w8.below hb68
  have ho_g0_w9 := ho_g0_w8.below hb68
  have hbw_w9 : Below w.heap.size w w9 := hbw_w8.trans (Below.mono hb68 hsw_w8)
  have hsw_w9 := hbw_w9.size
  have hch_w9 : w8.heap.size ≤ w9.heap.size := hb68.size
  clear hk_aW_w8 hk_aS_w8 hk_w0_w8 hk_x0_w8 hk_g0_w8 ho_w0_w8 ho_x0_w8 ho_g0_w8 hbw_w8 hsw_w8 hb68
  obtain ⟨hx0_x0, hx1_x0, hx2_x0, hx3_x0, hx4_x0, hx5_x0, hx6_x0, hx7_x0, hx8_x0, hx9_x0, hxl_x0⟩ := blk10 hk_x0_w9
  go_wp2_with fail
  refine (u_markWorkshop d1 f1 ss1 d2 f2 ss2 st P pp m _ _ _ _ _ _ _ _ _ _ _ _ (1) _ ho_x0_w9 (by have hq1_HOKW := (unhide HOKW).d.l1; have hq2_HOKW := (unhide HOKW).d.l2; have hq3_HOKW := (unhide HOKW).d.l3; simp only at hq1_HOKW hq2_HOKW hq3_HOKW; have hq4_HOKW := cntI_le (unhide HOKW).i; have hq5_HOKW := (unhide HOKW).p; omega) (by have hq1_HOKW := (unhide HOKW).d.l1; have hq2_HOKW := (unhide HOKW).d.l2; have hq3_HOKW := (unhide HOKW).d.l3; simp only at hq1_HOKW hq2_HOKW hq3_HOKW; have hq4_HOKW := cntI_le (unhide HOKW).i; have hq5_HOKW := (unhide HOKW).p; omega) ((unhide HOKW).more (by omega))).mono ?_
  rintro e w10 ⟨rfl, hm_w10, hW_w10⟩
  clear hm_w10
  clear hx0_x0 hx1_x0 hx2_x0 hx3_x0 hx4_x0 hx5_x0 hx6_x0 hx7_x0 hx8_x0 hx9_x0 hxl_x0
  have hk_aW_w10 := hW_w10.box hk_aW_w9
  have hk_aS_w10 := hW_w10.box hk_aS_w9
  have hk_w0_w10 := hW_w10.box hk_w0_w9
  have hk_x0_w10 := hW_w10.box hk_x0_w9
  have hk_g0_w10 := hW_w10.box hk_g0_w9
  have ho_w0_w10 := ho_w0_w9.within hW_w10 (by omega)
  have ho_g0_w10 := ho_g0_w9.within hW_w10 (by omega)
  have hbw_w10 : Below w.heap.size w w10 := hbw_w9.trans (hW_w10.below (by omega) (by omega))
  have hsw_w10 := hbw_w10.size
  have hch_w10 : w9.heap.size ≤ w10.heap.size := hW_w10.size
  clear hk_aW_w9 hk_aS_w9 hk_w0_w9 hk_x0_w9 hk_g0_w9 ho_w0_w9 ho_x0_w9 ho_g0_w9 hbw_w9 hsw_w9 hW_w10
  obtain ⟨hx0_w0, hx1_w0, hx2_w0, hx3_w0, hx4_w0, hx5_w0, hx6_w0, hx7_w0, hx8_w0, hx9_w0, hxl_w0⟩ := blk10 hk_w0_w10
  obtain ⟨hx0_g0, hx1_g0, hx2_g0, hx3_g0, hx4_g0, hx5_g0, hx6_g0, hx7_g0, hx8_g0, hx9_g0, hxl_g0⟩ := blk10 hk_g0_w10
  go_wp2_with fail
  refine (u_eqWorkshop d1r f1r ss1r d2r f2r ss2r str Pr ppr mr _ _ _ _ _ _ _ _ _ _ _ _ _ _ _ _ _ _ _ _ _ _ _ _ _ ho_g0_w10 ho_w0_w10 ((unhide HOKR).more (by omega))).mono ?_
  rintro e w11 ⟨rfl, hb_w11⟩
  clear hx0_w0 hx1_w0 hx2_w0 hx3_w0 hx4_w0 hx5_w0 hx6_w0 hx7_w0 hx8_w0 hx9_w0 hxl_w0 hx0_g0 hx1_g0 hx2_g0 hx3_g0 hx4_g0 hx5_g0 hx6_g0 hx7_g0 hx8_g0 hx9_g0 hxl_g0
  have hk_aW_w11 := blk_next hk_aW_w10 hb_w11
  have hk_aS_w11 := blk_next hk_aS_w10 hb_w11
  have hk_w0_w11 := blk_next hk_w0_w10 hb_w11
  have hk_x0_w11 := blk_next hk_x0_w10 hb_w11
  have hk_g0_w11 := blk_next hk_g0_w10 hb_w11
  have ho_w0_w11 := ho_w0_w10.below hb_w11
  have ho_g0_w11 := ho_g0_w10.below hb_w11
  have hbw_w11 : Below w.heap.size w w11 := hbw_w10.trans (Below.mono hb_w11 hsw_w10)
  have hsw_w11 := hbw_w11.size
  have hch_w11 : w10.heap.size ≤ w11.heap.size := hb_w11.size
  clear hk_aW_w10 hk_aS_w10 hk_w0_w10 hk_x0_w10 hk_g0_w10 ho_w0_w10 ho_g0_w10 hbw_w10 hsw_w10 hb_w11
  obtain ⟨hx0_g0, hx1_g0, hx2_g0, hx3_g0, hx4_g0, hx5_g0, hx6_g0, hx7_g0, hx8_g0, hx9_g0, hxl_g0⟩ := blk10 hk_g0_w11
  go_wp2_with fail
  refine (u_markWorkshop d1r f1r ss1r d2r f2r ss2r str Pr ppr mr _ _ _ _ _ _ _ _ _ _ _ _ (1) _ ho_g0_w11 (by have hq1_HOKW := (unhide HOKW).d.l1; have hq2_HOKW := (unhide HOKW).d.l2; have hq3_HOKW := (unhide HOKW).d.l3; simp only at hq1_HOKW hq2_HOKW hq3_HOKW; have hq4_HOKW := cntI_le (unhide HOKW).i; have hq5_HOKW := (unhide HOKW).p; have hq1_HOKR := (unhide HOKR).d.l1; have hq2_HOKR := (unhide HOKR).d.l2; have hq3_HOKR := (unhide HOKR).d.l3; simp only at hq1_HOKR hq2_HOKR hq3_HOKR; have hq4_HOKR := cntI_le (unhide HOKR).i; have hq5_HOKR := (unhide HOKR).p; omega) (by have hq1_HOKW := (unhide HOKW).d.l1; have hq2_HOKW := (unhide HOKW).d.l2; have hq3_HOKW := (unhide HOKW).d.l3; simp only at hq1_HOKW hq2_HOKW hq3_HOKW; have hq4_HOKW := cntI_le (unhide HOKW).i; have hq5_HOKW := (unhide HOKW).p; have hq1_HOKR := (unhide HOKR).d.l1; have hq2_HOKR := (unhide HOKR).d.l2; have hq3_HOKR := (unhide HOKR).d.l3; simp only at hq1_HOKR hq2_HOKR hq3_HOKR; have hq4_HOKR := cntI_le (unhide HOKR).i; have hq5_HOKR := (unhide HOKR).p; omega) ((unhide HOKR).more (by omega))).mono ?_
  rintro e w12 ⟨rfl, hm_w12, hW_w12⟩
  clear hx0_g0 hx1_g0 hx2_g0 hx3_g0 hx4_g0 hx5_g0 hx6_g0 hx7_g0 hx8_g0 hx9_g0 hxl_g0
  have hk_aW_w12 := hW_w12.box hk_aW_w11
  have hk_aS_w12 := hW_w12.box hk_aS_w11
  have hk_w0_w12 := hW_w12.box hk_w0_w11
  have hk_x0_w12 := hW_w12.box hk_x0_w11
  have hk_g0_w12 := hW_w12.box hk_g0_w11
  have ho_w0_w12 := ho_w0_w11.within hW_w12 (by omega)
  have hbw_w12 : Below w.heap.size w w12 := hbw_w11.trans (hW_w12.below (by omega) (by omega))
  have hsw_w12 := hbw_w12.size
  have hch_w12 : w11.heap.size ≤ w12.heap.size := hW_w12.size
  clear hk_aW_w11 hk_aS_w11 hk_w0_w11 hk_x0_w11 hk_g0_w11 ho_w0_w11 ho_g0_w11 hbw_w11 hsw_w11 hW_w12
  have ho_g0_w12 := hm_w12
  clear hm_w12
  obtain ⟨hx0_g0, hx1_g0, hx2_g0, hx3_g0, hx4_g0, hx5_g0, hx6_g0, hx7_g0, hx8_g0, hx9_g0, hxl_g0⟩ := blk10 hk_g0_w12
  go_wp2_with fail
  refine (u_heldWorkshop d1r f1r d2r f2r mr Pr _ _ _ _ _ _ _ _ _ _ _ _ _ _ _ _ (1) _ ho_g0_w12 (by have hq1_HOKR := (unhide HOKR).d.l1; have hq2_HOKR := (unhide HOKR).d.l2; have hq3_HOKR := (unhide HOKR).d.l3; simp only at hq1_HOKR hq2_HOKR hq3_HOKR; have hq4_HOKR := cntI_le (unhide HOKR).i; have hq5_HOKR := (unhide HOKR).p; omega) (by have hq1_HOKR := (unhide HOKR).d.l1; have hq2_HOKR := (unhide HOKR).d.l2; have hq3_HOKR := (unhide HOKR).d.l3; simp only at hq1_HOKR hq2_HOKR hq3_HOKR; have hq4_HOKR := cntI_le (unhide HOKR).i; have hq5_HOKR := (unhide HOKR).p; omega) (by have hq1_HOKR := (unhide HOKR).d.l1; have hq2_HOKR := (unhide HOKR).d.l2; have hq3_HOKR := (unhide HOKR).d.l3; simp only at hq1_HOKR hq2_HOKR hq3_HOKR; have hq4_HOKR := cntI_le (unhide HOKR).i; have hq5_HOKR := (unhide HOKR).p; omega) (by have hq1_HOKR := (unhide HOKR).d.l1; have hq2_HOKR := (unhide HOKR).d.l2; have hq3_HOKR := (unhide HOKR).d.l3; simp only at hq1_HOKR hq2_HOKR hq3_HOKR; have hq4_HOKR := cntI_le (unhide HOKR).i; have hq5_HOKR := (unhide HOKR).p; omega) (by have hq1_HOKR := (unhide HOKR).d.l1; have hq2_HOKR := (unhide HOKR).d.l2; have hq3_HOKR := (unhide HOKR).d.l3; simp only at hq1_HOKR hq2_HOKR hq3_HOKR; have hq4_HOKR := cntI_le (unhide HOKR).i; have hq5_HOKR := (unhide HOKR).p; omega) ((unhide HOKR).more (by omega)).i (by have hq1_HOKR := (unhide HOKR).d.l1; have hq2_HOKR := (unhide HOKR).d.l2; have hq3_HOKR := (unhide HOKR).d.l3; simp only at hq1_HOKR hq2_HOKR hq3_HOKR; have hq4_HOKR := cntI_le (unhide HOKR).i; have hq5_HOKR := (unhide HOKR).p; omega)).mono ?_
  rintro e w13 ⟨rfl, hb_w13⟩
  clear hx0_g0 hx1_g0 hx2_g0 hx3_g0 hx4_g0 hx5_g0 hx6_g0 hx7_g0 hx8_g0 hx9_g0 hxl_g0
  have hk_aW_w13 := blk_next hk_aW_w12 hb_w13
  have hk_aS_w13 := blk_next hk_aS_w12 hb_w13
  have hk_w0_w13 := blk_next hk_w0_w12 hb_w13
  have hk_x0_w13 := blk_next hk_x0_w12 hb_w13
  have hk_g0_w13 := blk_next hk_g0_w12 hb_w13
  have ho_w0_w13 := ho_w0_w12.below hb_w13
  have ho_g0_w13 := ho_g0_w12.below hb_w13
  have hbw_w13 : Below w.heap.size w w13 := hbw_w12.trans (Below.mono hb_w13 hsw_w12)
  have hsw_w13 := hbw_w13.size
  have hch_w13 : w12.heap.size ≤ w13.heap.size := hb_w13.size
  clear hk_aW_w12 hk_aS_w12 hk_w0_w12 hk_x0_w12 hk_g0_w12 ho_w0_w12 ho_g0_w12 hbw_w12 hsw_w12 hb_w13
  obtain ⟨hx0_aW, hx1_aW, hx2_aW, hx3_aW, hx4_aW, hx5_aW, hx6_aW, hx7_aW, hx8_aW, hx9_aW, hxl_aW⟩ := blk10 hk_aW_w13
  obtain ⟨hx0_aS, hx1_aS, hx2_aS, hx3_aS, hx4_aS, hx5_aS, hx6_aS, hxl_aS⟩ := blk7 hk_aS_w13
  go_upto_region 27 with fail
  have hSW_c := hSW.below hbw_w13
  go_cut [14, 15] (fun s14 s15 wx => ∃ (g_h0 : Nat) (A1_h0 : Option Addr) (c1_h0 : Nat) (A2_h0 : Option Addr) (c2_h0 : Nat) (A3_h0 : Option Addr) (c3_h0 : Nat) (A4_h0 : Option Addr) (c4_h0 : Nat) (A5_h0 : Option Addr) (c5_h0 : Nat), s14 = .pointer (some ⟨g_h0, 0, none⟩) ∧ s15 = .bool rb ∧ wx.heap[g_h0]? = some (.cells #[.int .i64 d1r, .int .i64 f1r, .slice A1_h0 ss1r.length c1_h0, .int .i64 d2r, .int .i64 f2r, .slice A2_h0 ss2r.length c2_h0, .slice A3_h0 str.length c3_h0, .slice A4_h0 Pr.length c4_h0, .slice A5_h0 ppr.length c5_h0, .int .i64 mr] 41 (0, 0)) ∧ OwnW wx (w13.heap.size) (wx.heap.size) A1_h0 c1_h0 A2_h0 c2_h0 A3_h0 c3_h0 A4_h0 c4_h0 A5_h0 c5_h0 (PDraft.mk d1r f1r ss1r d2r f2r ss2r str) Pr ppr ∧ Below w13.heap.size w13 wx)
  case first =>
    go_region_held3 (fun W => (∀ b o, b < w13.heap.size → W.cell? ⟨b, o, none⟩ = (w13).cell? ⟨b, o, none⟩) ∧ (∀ b o, b < w13.heap.size → W.frozen? ⟨b, o, none⟩ = (w13).frozen? ⟨b, o, none⟩) ∧ Below (w13.heap.size) (w13) W) (exact keep_of bel) (first | (go_at_call 17; have hq := (‹_ ∧ _ ∧ Below _ _ _›).2.2; refine (u_toWorkshop d1 f1 ss1 d2 f2 ss2 st P pp m w.heap.size A1 A2 A3 A4 A5 c1 c2 c3 c4 c5 _ ?_ ?_).mono ?_; exact hSW_c.below (hq.mono hsw_w13); exact Nat.le_trans hsw_w13 hq.size; rintro e wt3_0 ⟨A1_t3_0, c1_t3_0, A2_t3_0, c2_t3_0, A3_t3_0, c3_t3_0, A4_t3_0, c4_t3_0, A5_t3_0, c5_t3_0, rfl, hor3_0, hbt3_0⟩; (have hot3_0 := hor3_0.wide (lo' := w13.heap.size) (hi' := wt3_0.heap.size) (by first | exact hq.size | exact Nat.le_refl _) (Nat.le_refl _)); clear hor3_0; have hqs3_0 := hq.size; have hbs3_0 := hbt3_0.size; (try simp at hqs3_0); (try simp at hbs3_0); obtain ⟨hcb3_0, hfb3_0⟩ := bcell hbt3_0; (try (have hzl_w13_3_0 : w13.heap.size < wt3_0.heap.size := (by omega)))) | (go_at_call 34; have hq := (‹_ ∧ _ ∧ Below _ _ _›).2.2; refine (l_toStep K F L T I bs as_ _).mono ?_; rintro e wt3_1 ⟨rfl, hbt3_1⟩; have hqs3_1 := hq.size; have hbs3_1 := hbt3_1.size; (try simp at hqs3_1); (try simp at hbs3_1); (have hot3_0 : OwnW wt3_1 (w13.heap.size) (wt3_0.heap.size) A1_t3_0 c1_t3_0 A2_t3_0 c2_t3_0 A3_t3_0 c3_t3_0 A4_t3_0 c4_t3_0 A5_t3_0 c5_t3_0 (PDraft.mk d1 f1 ss1 d2 f2 ss2 st) P pp := (by first | exact hot3_0.below hbt3_1 | exact (hot3_0.alloc _).below hbt3_1)); obtain ⟨hcb3_1, hfb3_1⟩ := bcell hbt3_1; (try (have hzl_w13_3_1 : w13.heap.size < wt3_1.heap.size := (by omega))); (try (have hzl_wt3_0_3_1 : wt3_0.heap.size < wt3_1.heap.size := (by omega)))) | (go_at_call 35; have hqf := (‹_ ∧ _ ∧ Below _ _ _›).2.2; (first | refine (unhide HIMPL _ _ _ _ _ _ _ _ _ _ _ (hot3_0.rd ((unhide HOKW).more (by omega)))).mono ?_ | refine (unhide HIMPL _ _ _ _ _ _ _ _ _ _ _ ((hot3_0.alloc _).rd ((unhide HOKW).more (by omega)))).mono ?_); rintro e wf3 ⟨A1_f3, c1_f3, A2_f3, c2_f3, A3_f3, c3_f3, A4_f3, c4_f3, A5_f3, c5_f3, rfl, horf3, hbf3⟩; (have hof3 := horf3.wide (lo' := w13.heap.size) (hi' := wf3.heap.size) (by first | exact hqf.size | exact Nat.le_refl _) (Nat.le_refl _)); clear horf3; have hqsf := hqf.size; have hbsf := hbf3.size; (try simp at hqsf); (try simp at hbsf); obtain ⟨hcbf3, hfbf3⟩ := bcell hbf3; (try (have hzl_w13_f : w13.heap.size < wf3.heap.size := (by omega))); (try (have hzl_wt3_0_f : wt3_0.heap.size < wf3.heap.size := (by omega))); (try (have hzl_wt3_1_f : wt3_1.heap.size < wf3.heap.size := (by omega)))))
    all_goals (go_wp2_with fail)
    all_goals (go_meet)
    all_goals (
      refine ⟨_, A1_f3, c1_f3, A2_f3, c2_f3, A3_f3, c3_f3, A4_f3, c4_f3, A5_f3, c5_f3, rfl, rfl, ?_⟩
      first
        | ((with_reducible refine leafN ?_ hof3 ?_ ?_); (first | exact bel); (first | rfl | (simp; first | done | fail)); (first | omega | (simp; first | done | fail) | (simp; omega)))
        | ((with_reducible apply leafR (ho := hof3)); (case hk => (focus ((repeat (first | (with_reducible exact blk_new_at _ _ (by first | rfl | (simp; first | done | fail))) | (with_reducible refine blk_next ?_ hbf3) | (with_reducible refine blk_next ?_ hbt3_1) | (with_reducible refine blk_next ?_ hbt3_0) | (with_reducible refine blk_drew ?_) | (with_reducible refine blk_alloc ?_ _))); (first | done | fail)))); (case hb => exact bel); (case hg => first | omega | (simp; first | done | fail) | (simp; omega))))
  obtain ⟨g_h0, A1_h0, c1_h0, A2_h0, c2_h0, A3_h0, c3_h0, A4_h0, c4_h0, A5_h0, c5_h0, rfl, rfl, hkn, hon, hbn⟩ := hcut
  obtain ⟨w14, hwc⟩ : ∃ W, W = wc := ⟨_, rfl⟩
  subst hwc
  clear hx0_aW hx1_aW hx2_aW hx3_aW hx4_aW hx5_aW hx6_aW hx7_aW hx8_aW hx9_aW hxl_aW hx0_aS hx1_aS hx2_aS hx3_aS hx4_aS hx5_aS hx6_aS hxl_aS
  have hk_aW_w14 := blk_next hk_aW_w13 hbn
  have hk_aS_w14 := blk_next hk_aS_w13 hbn
  have hk_w0_w14 := blk_next hk_w0_w13 hbn
  have hk_x0_w14 := blk_next hk_x0_w13 hbn
  have hk_g0_w14 := blk_next hk_g0_w13 hbn
  have ho_w0_w14 := ho_w0_w13.below hbn
  have ho_g0_w14 := ho_g0_w13.below hbn
  have hbw_w14 : Below w.heap.size w w14 := hbw_w13.trans (Below.mono hbn hsw_w13)
  have hsw_w14 := hbw_w14.size
  have hch_w14 : w13.heap.size ≤ w14.heap.size := hbn.size
  clear hk_aW_w13 hk_aS_w13 hk_w0_w13 hk_x0_w13 hk_g0_w13 ho_w0_w13 ho_g0_w13 hbw_w13 hsw_w13 hbn
  have ho_h0_w14 := hon
  clear hon
  have hk_h0_w14 := hkn
  clear hkn
  clear hSW_c
  obtain ⟨hx0_w0, hx1_w0, hx2_w0, hx3_w0, hx4_w0, hx5_w0, hx6_w0, hx7_w0, hx8_w0, hx9_w0, hxl_w0⟩ := blk10 hk_w0_w14
  obtain ⟨hx0_h0, hx1_h0, hx2_h0, hx3_h0, hx4_h0, hx5_h0, hx6_h0, hx7_h0, hx8_h0, hx9_h0, hxl_h0⟩ := blk10 hk_h0_w14
  go_wp2_with fail
  refine (u_eqWorkshop d1r f1r ss1r d2r f2r ss2r str Pr ppr mr _ _ _ _ _ _ _ _ _ _ _ _ _ _ _ _ _ _ _ _ _ _ _ _ _ ho_h0_w14 ho_w0_w14 ((unhide HOKR).more (by omega))).mono ?_
  rintro e w15 ⟨rfl, hb_w15⟩
  clear hx0_w0 hx1_w0 hx2_w0 hx3_w0 hx4_w0 hx5_w0 hx6_w0 hx7_w0 hx8_w0 hx9_w0 hxl_w0 hx0_h0 hx1_h0 hx2_h0 hx3_h0 hx4_h0 hx5_h0 hx6_h0 hx7_h0 hx8_h0 hx9_h0 hxl_h0
  have hk_aW_w15 := blk_next hk_aW_w14 hb_w15
  have hk_aS_w15 := blk_next hk_aS_w14 hb_w15
  have hk_w0_w15 := blk_next hk_w0_w14 hb_w15
  have hk_x0_w15 := blk_next hk_x0_w14 hb_w15
  have hk_g0_w15 := blk_next hk_g0_w14 hb_w15
  have hk_h0_w15 := blk_next hk_h0_w14 hb_w15
  have ho_w0_w15 := ho_w0_w14.below hb_w15
  have ho_g0_w15 := ho_g0_w14.below hb_w15
  have ho_h0_w15 := ho_h0_w14.below hb_w15
  have hbw_w15 : Below w.heap.size w w15 := hbw_w14.trans (Below.mono hb_w15 hsw_w14)
  have hsw_w15 := hbw_w15.size
  have hch_w15 : w14.heap.size ≤ w15.heap.size := hb_w15.size
  clear hk_aW_w14 hk_aS_w14 hk_w0_w14 hk_x0_w14 hk_g0_w14 hk_h0_w14 ho_w0_w14 ho_g0_w14 ho_h0_w14 hbw_w14 hsw_w14 hb_w15
  obtain ⟨hx0_g0, hx1_g0, hx2_g0, hx3_g0, hx4_g0, hx5_g0, hx6_g0, hx7_g0, hx8_g0, hx9_g0, hxl_g0⟩ := blk10 hk_g0_w15
  go_wp2_with fail
  refine (u_heldWorkshop d1r f1r d2r f2r mr Pr _ _ _ _ _ _ _ _ _ _ _ _ _ _ _ _ (1) _ ho_g0_w15 (by have hq1_HOKR := (unhide HOKR).d.l1; have hq2_HOKR := (unhide HOKR).d.l2; have hq3_HOKR := (unhide HOKR).d.l3; simp only at hq1_HOKR hq2_HOKR hq3_HOKR; have hq4_HOKR := cntI_le (unhide HOKR).i; have hq5_HOKR := (unhide HOKR).p; omega) (by have hq1_HOKR := (unhide HOKR).d.l1; have hq2_HOKR := (unhide HOKR).d.l2; have hq3_HOKR := (unhide HOKR).d.l3; simp only at hq1_HOKR hq2_HOKR hq3_HOKR; have hq4_HOKR := cntI_le (unhide HOKR).i; have hq5_HOKR := (unhide HOKR).p; omega) (by have hq1_HOKR := (unhide HOKR).d.l1; have hq2_HOKR := (unhide HOKR).d.l2; have hq3_HOKR := (unhide HOKR).d.l3; simp only at hq1_HOKR hq2_HOKR hq3_HOKR; have hq4_HOKR := cntI_le (unhide HOKR).i; have hq5_HOKR := (unhide HOKR).p; omega) (by have hq1_HOKR := (unhide HOKR).d.l1; have hq2_HOKR := (unhide HOKR).d.l2; have hq3_HOKR := (unhide HOKR).d.l3; simp only at hq1_HOKR hq2_HOKR hq3_HOKR; have hq4_HOKR := cntI_le (unhide HOKR).i; have hq5_HOKR := (unhide HOKR).p; omega) (by have hq1_HOKR := (unhide HOKR).d.l1; have hq2_HOKR := (unhide HOKR).d.l2; have hq3_HOKR := (unhide HOKR).d.l3; simp only at hq1_HOKR hq2_HOKR hq3_HOKR; have hq4_HOKR := cntI_le (unhide HOKR).i; have hq5_HOKR := (unhide HOKR).p; omega) ((unhide HOKR).more (by omega)).i (by have hq1_HOKR := (unhide HOKR).d.l1; have hq2_HOKR := (unhide HOKR).d.l2; have hq3_HOKR := (unhide HOKR).d.l3; simp only at hq1_HOKR hq2_HOKR hq3_HOKR; have hq4_HOKR := cntI_le (unhide HOKR).i; have hq5_HOKR := (unhide HOKR).p; omega)).mono ?_
  rintro e w16 ⟨rfl, hb_w16⟩
  clear hx0_g0 hx1_g0 hx2_g0 hx3_g0 hx4_g0 hx5_g0 hx6_g0 hx7_g0 hx8_g0 hx9_g0 hxl_g0
  have hk_aW_w16 := blk_next hk_aW_w15 hb_w16
  have hk_aS_w16 := blk_next hk_aS_w15 hb_w16
  have hk_w0_w16 := blk_next hk_w0_w15 hb_w16
  have hk_x0_w16 := blk_next hk_x0_w15 hb_w16
  have hk_g0_w16 := blk_next hk_g0_w15 hb_w16
  have hk_h0_w16 := blk_next hk_h0_w15 hb_w16
  have ho_w0_w16 := ho_w0_w15.below hb_w16
  have ho_g0_w16 := ho_g0_w15.below hb_w16
  have ho_h0_w16 := ho_h0_w15.below hb_w16
  have hbw_w16 : Below w.heap.size w w16 := hbw_w15.trans (Below.mono hb_w16 hsw_w15)
  have hsw_w16 := hbw_w16.size
  have hch_w16 : w15.heap.size ≤ w16.heap.size := hb_w16.size
  clear hk_aW_w15 hk_aS_w15 hk_w0_w15 hk_x0_w15 hk_g0_w15 hk_h0_w15 ho_w0_w15 ho_g0_w15 ho_h0_w15 hbw_w15 hsw_w15 hb_w16
  go_wp2
  go_ret
  exact ⟨rfl, hbw_w16⟩
end Go.Proofs.YtdddglihomchfaaGreat.fnExactShape
