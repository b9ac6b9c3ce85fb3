/- The walk of FnExactDoAct, for arguments that are not too large. -/
import Derived.Deep.DeepCutAuto
import Derived.Deep.RegionHeld3
import Derived.Deep.Slices
import Derived.Lib.SmallJoins
import Derived.SliceStrings
import Derived.Test.YtdddglihomchfaaGreatRows
import Derived.Test.YtdddglihomchfaaGreatQEWork9s
import Derived.Test.YtdddglihomchfaaGreatQEWork9i
import Derived.Test.YtdddglihomchfaaGreatQEm
import Derived.Test.YtdddglihomchfaaGreatQEo
import Derived.Test.YtdddglihomchfaaGreatQEb
namespace Go.Proofs.YtdddglihomchfaaGreat.fnExactDoAct
set_option maxHeartbeats 1600000
open Go.ChangeShapes Go.WideShapes Go.ChangeAt Go.RowKit Go.Joins Go.WideMaps Go.WideElems
open Go.ChangeMaps (open_string shut_string)
set_option linter.unusedVariables false
theorem leafR {wf w0:World} {b g:Nat} {d1r f1r d2r f2r mr:Int} {ss1r ss2r:List ByteArray} {str:List PStep} {Pr:List PItem} {ppr:List PPaper} {A1_h0:Option Addr} {c1_h0:Nat} {A2_h0:Option Addr} {c2_h0:Nat} {A3_h0:Option Addr} {c3_h0:Nat} {A4_h0:Option Addr} {c4_h0:Nat} {A5_h0:Option Addr} {c5_h0:Nat} {z0 z1 z2 z3 z4 z5 z6 z7 z8 z9:Value} (hk:wf.heap[g]?=some (.cells #[z0,z1,z2,z3,z4,z5,z6,z7,z8,z9] 41 (0,0))) (ho:OwnW wf (b) (wf.heap.size) A1_h0 c1_h0 A2_h0 c2_h0 A3_h0 c3_h0 A4_h0 c4_h0 A5_h0 c5_h0 (PDraft.mk d1r f1r ss1r d2r f2r ss2r str) Pr ppr) (hb:Below b w0 wf) (hg:b≤g) :
  ((((((((((wf.setCell ⟨g,0,none⟩ (.int .i64 d1r)).setCell ⟨g,1,none⟩ (.int .i64 f1r)).setCell ⟨g,2,none⟩ (.slice A1_h0 ss1r.length c1_h0)).setCell ⟨g,3,none⟩ (.int .i64 d2r)).setCell ⟨g,4,none⟩ (.int .i64 f2r)).setCell ⟨g,5,none⟩ (.slice A2_h0 ss2r.length c2_h0)).setCell ⟨g,6,none⟩ (.slice A3_h0 str.length c3_h0)).setCell ⟨g,7,none⟩ (.slice A4_h0 Pr.length c4_h0)).setCell ⟨g,8,none⟩ (.slice A5_h0 ppr.length c5_h0)).setCell ⟨g,9,none⟩ (.int .i64 mr)).heap[g]?=some (.cells #[.int .i64 d1r,.int .i64 f1r,.slice A1_h0 ss1r.length c1_h0,.int .i64 d2r,.int .i64 f2r,.slice A2_h0 ss2r.length c2_h0,.slice A3_h0 str.length c3_h0,.slice A4_h0 Pr.length c4_h0,.slice A5_h0 ppr.length c5_h0,.int .i64 mr] 41 (0,0))∧OwnW ((((((((((wf.setCell ⟨g,0,none⟩ (.int .i64 d1r)).setCell ⟨g,1,none⟩ (.int .i64 f1r)).setCell ⟨g,2,none⟩ (.slice A1_h0 ss1r.length c1_h0)).setCell ⟨g,3,none⟩ (.int .i64 d2r)).setCell ⟨g,4,none⟩ (.int .i64 f2r)).setCell ⟨g,5,none⟩ (.slice A2_h0 ss2r.length c2_h0)).setCell ⟨g,6,none⟩ (.slice A3_h0 str.length c3_h0)).setCell ⟨g,7,none⟩ (.slice A4_h0 Pr.length c4_h0)).setCell ⟨g,8,none⟩ (.slice A5_h0 ppr.length c5_h0)).setCell ⟨g,9,none⟩ (.int .i64 mr)) (b) (((((((((((wf.setCell ⟨g,0,none⟩ (.int .i64 d1r)).setCell ⟨g,1,none⟩ (.int .i64 f1r)).setCell ⟨g,2,none⟩ (.slice A1_h0 ss1r.length c1_h0)).setCell ⟨g,3,none⟩ (.int .i64 d2r)).setCell ⟨g,4,none⟩ (.int .i64 f2r)).setCell ⟨g,5,none⟩ (.slice A2_h0 ss2r.length c2_h0)).setCell ⟨g,6,none⟩ (.slice A3_h0 str.length c3_h0)).setCell ⟨g,7,none⟩ (.slice A4_h0 Pr.length c4_h0)).setCell ⟨g,8,none⟩ (.slice A5_h0 ppr.length c5_h0)).setCell ⟨g,9,none⟩ (.int .i64 mr)).heap.size) A1_h0 c1_h0 A2_h0 c2_h0 A3_h0 c3_h0 A4_h0 c4_h0 A5_h0 c5_h0 (PDraft.mk d1r f1r ss1r d2r f2r ss2r str) Pr ppr∧Below b w0 ((((((((((wf.setCell ⟨g,0,none⟩ (.int .i64 d1r)).setCell ⟨g,1,none⟩ (.int .i64 f1r)).setCell ⟨g,2,none⟩ (.slice A1_h0 ss1r.length c1_h0)).setCell ⟨g,3,none⟩ (.int .i64 d2r)).setCell ⟨g,4,none⟩ (.int .i64 f2r)).setCell ⟨g,5,none⟩ (.slice A2_h0 ss2r.length c2_h0)).setCell ⟨g,6,none⟩ (.slice A3_h0 str.length c3_h0)).setCell ⟨g,7,none⟩ (.slice A4_h0 Pr.length c4_h0)).setCell ⟨g,8,none⟩ (.slice A5_h0 ppr.length c5_h0)).setCell ⟨g,9,none⟩ (.int .i64 mr)):=by
 refine ⟨blk10_set hk _ _ _ _ _ _ _ _ _ _,?_,?_⟩
 ·exact (ho.box hk (by decide) (by repeat (first|(with_reducible exact World.grownBy.refl _ _)|(with_reducible refine only_setCell ?_ (.inl rfl) _)))).wide (Nat.le_refl _) (by simp [World.setCell])
 ·exact bel
theorem leafN {wf w0:World} {b g:Nat} {d1r f1r d2r f2r mr:Int} {ss1r ss2r:List ByteArray} {str:List PStep} {Pr:List PItem} {ppr:List PPaper} {A1_h0:Option Addr} {c1_h0:Nat} {A2_h0:Option Addr} {c2_h0:Nat} {A3_h0:Option Addr} {c3_h0:Nat} {A4_h0:Option Addr} {c4_h0:Nat} {A5_h0:Option Addr} {c5_h0:Nat} (hb:Below b w0 wf) (ho:OwnW wf (b) (wf.heap.size) A1_h0 c1_h0 A2_h0 c2_h0 A3_h0 c3_h0 A4_h0 c4_h0 A5_h0 c5_h0 (PDraft.mk d1r f1r ss1r d2r f2r ss2r str) Pr ppr) (hg:g=wf.heap.size) (hg2:b≤g) :
  (wf.alloc (.cells #[.int .i64 d1r,.int .i64 f1r,.slice A1_h0 ss1r.length c1_h0,.int .i64 d2r,.int .i64 f2r,.slice A2_h0 ss2r.length c2_h0,.slice A3_h0 str.length c3_h0,.slice A4_h0 Pr.length c4_h0,.slice A5_h0 ppr.length c5_h0,.int .i64 mr] 41)).heap[g]?=some (.cells #[.int .i64 d1r,.int .i64 f1r,.slice A1_h0 ss1r.length c1_h0,.int .i64 d2r,.int .i64 f2r,.slice A2_h0 ss2r.length c2_h0,.slice A3_h0 str.length c3_h0,.slice A4_h0 Pr.length c4_h0,.slice A5_h0 ppr.length c5_h0,.int .i64 mr] 41 (0,0))∧OwnW (wf.alloc (.cells #[.int .i64 d1r,.int .i64 f1r,.slice A1_h0 ss1r.length c1_h0,.int .i64 d2r,.int .i64 f2r,.slice A2_h0 ss2r.length c2_h0,.slice A3_h0 str.length c3_h0,.slice A4_h0 Pr.length c4_h0,.slice A5_h0 ppr.length c5_h0,.int .i64 mr] 41)) (b) ((wf.alloc (.cells #[.int .i64 d1r,.int .i64 f1r,.slice A1_h0 ss1r.length c1_h0,.int .i64 d2r,.int .i64 f2r,.slice A2_h0 ss2r.length c2_h0,.slice A3_h0 str.length c3_h0,.slice A4_h0 Pr.length c4_h0,.slice A5_h0 ppr.length c5_h0,.int .i64 mr] 41)).heap.size) A1_h0 c1_h0 A2_h0 c2_h0 A3_h0 c3_h0 A4_h0 c4_h0 A5_h0 c5_h0 (PDraft.mk d1r f1r ss1r d2r f2r ss2r str) Pr ppr∧Below b w0 (wf.alloc (.cells #[.int .i64 d1r,.int .i64 f1r,.slice A1_h0 ss1r.length c1_h0,.int .i64 d2r,.int .i64 f2r,.slice A2_h0 ss2r.length c2_h0,.slice A3_h0 str.length c3_h0,.slice A4_h0 Pr.length c4_h0,.slice A5_h0 ppr.length c5_h0,.int .i64 mr] 41)):=by
 subst hg
 exact ⟨blk_new_at _ _ rfl,(ho.alloc _).wide (Nat.le_refl _) (by simp),bel⟩
set_option maxRecDepth 100000 in
set_option maxHeartbeats 16000000 in
theorem walkDoAct (d1 f1:Int) (ss1:List ByteArray) (d2 f2:Int) (ss2:List ByteArray) (st:List PStep) (P:List PItem) (pp:List PPaper) (m:Int) (A1 A2 A3 A4 A5:Option Addr) (c1 c2 c3 c4 c5:Nat) (k a b:Int) (w:World) (hSW:RdWork0 w w.heap.size A1 A2 A3 A4 A5 (PDraft.mk d1 f1 ss1 d2 f2 ss2 st) P pp) (hnW:OkWork (PDraft.mk d1 f1 ss1 d2 f2 ss2 st) P pp 1048576) (hz1:0≤szW (PDraft.mk d1 f1 ss1 d2 f2 ss2 st) P pp (1048576)) :
  Calls Tryz.prog 12 #[.agg #[.int .i64 d1,.int .i64 f1,.slice A1 ss1.length c1,.int .i64 d2,.int .i64 f2,.slice A2 ss2.length c2,.slice A3 st.length c3,.slice A4 P.length c4,.slice A5 pp.length c5,.int .i64 m],.agg #[.int .i64 k,.int .i64 a,.int .i64 b]] w fun e w'=>e=.returned (.bool true)∧Below w.heap.size w w':=by
 have hokW:OkWork (PDraft.mk d1 f1 ss1 d2 f2 ss2 st) P pp 1048576:=hnW
 have hrok:OkWork (PDraft.mk ((doActRes (PWork.mk (PDraft.mk d1 f1 ss1 d2 f2 ss2 st) P pp m) k a b).1.D.d1) ((doActRes (PWork.mk (PDraft.mk d1 f1 ss1 d2 f2 ss2 st) P pp m) k a b).1.D.f1) ((doActRes (PWork.mk (PDraft.mk d1 f1 ss1 d2 f2 ss2 st) P pp m) k a b).1.D.ss1) ((doActRes (PWork.mk (PDraft.mk d1 f1 ss1 d2 f2 ss2 st) P pp m) k a b).1.D.d2) ((doActRes (PWork.mk (PDraft.mk d1 f1 ss1 d2 f2 ss2 st) P pp m) k a b).1.D.f2) ((doActRes (PWork.mk (PDraft.mk d1 f1 ss1 d2 f2 ss2 st) P pp m) k a b).1.D.ss2) ((doActRes (PWork.mk (PDraft.mk d1 f1 ss1 d2 f2 ss2 st) P pp m) k a b).1.D.st)) ((doActRes (PWork.mk (PDraft.mk d1 f1 ss1 d2 f2 ss2 st) P pp m) k a b).1.P) ((doActRes (PWork.mk (PDraft.mk d1 f1 ss1 d2 f2 ss2 st) P pp m) k a b).1.pp) 1048576:=by
  exact doActRes_ok (PWork.mk (PDraft.mk d1 f1 ss1 d2 f2 ss2 st) P pp m) k a b hokW
 have hspec:=fun (W:World) (A1_0W:Option Addr) (c1_0W:Nat) (A2_0W:Option Addr) (c2_0W:Nat) (A3_0W:Option Addr) (c3_0W:Nat) (A4_0W:Option Addr) (c4_0W:Nat) (A5_0W:Option Addr) (c5_0W:Nat) (h_0W:RdWork W W.heap.size A1_0W A2_0W A3_0W A4_0W c4_0W A5_0W (PDraft.mk d1 f1 ss1 d2 f2 ss2 st) P pp)=>s_DoAct d1 f1 ss1 d2 f2 ss2 st P pp m k a b W.heap.size A1_0W A2_0W A3_0W A4_0W A5_0W c1_0W c2_0W c3_0W c4_0W c5_0W W h_0W (Nat.le_refl _) hokW
 have himpl:=fun (W:World) (A1_0W:Option Addr) (c1_0W:Nat) (A2_0W:Option Addr) (c2_0W:Nat) (A3_0W:Option Addr) (c3_0W:Nat) (A4_0W:Option Addr) (c4_0W:Nat) (A5_0W:Option Addr) (c5_0W:Nat) (h_0W:RdWork W W.heap.size A1_0W A2_0W A3_0W A4_0W c4_0W A5_0W (PDraft.mk d1 f1 ss1 d2 f2 ss2 st) P pp)=>i_DoAct d1 f1 ss1 d2 f2 ss2 st P pp m k a b W.heap.size A1_0W A2_0W A3_0W A4_0W A5_0W c1_0W c2_0W c3_0W c4_0W c5_0W W h_0W (Nat.le_refl _) hokW
 generalize hgen0:((doActRes (PWork.mk (PDraft.mk d1 f1 ss1 d2 f2 ss2 st) P pp m) k a b).1.D.d1)=d1r at hspec himpl hrok
 generalize hgen1:((doActRes (PWork.mk (PDraft.mk d1 f1 ss1 d2 f2 ss2 st) P pp m) k a b).1.D.f1)=f1r at hspec himpl hrok
 generalize hgen2:((doActRes (PWork.mk (PDraft.mk d1 f1 ss1 d2 f2 ss2 st) P pp m) k a b).1.D.ss1)=ss1r at hspec himpl hrok
 generalize hgen3:((doActRes (PWork.mk (PDraft.mk d1 f1 ss1 d2 f2 ss2 st) P pp m) k a b).1.D.d2)=d2r at hspec himpl hrok
 generalize hgen4:((doActRes (PWork.mk (PDraft.mk d1 f1 ss1 d2 f2 ss2 st) P pp m) k a b).1.D.f2)=f2r at hspec himpl hrok
 generalize hgen5:((doActRes (PWork.mk (PDraft.mk d1 f1 ss1 d2 f2 ss2 st) P pp m) k a b).1.D.ss2)=ss2r at hspec himpl hrok
 generalize hgen6:((doActRes (PWork.mk (PDraft.mk d1 f1 ss1 d2 f2 ss2 st) P pp m) k a b).1.D.st)=str at hspec himpl hrok
 generalize hgen7:((doActRes (PWork.mk (PDraft.mk d1 f1 ss1 d2 f2 ss2 st) P pp m) k a b).1.P)=Pr at hspec himpl hrok
 generalize hgen8:((doActRes (PWork.mk (PDraft.mk d1 f1 ss1 d2 f2 ss2 st) P pp m) k a b).1.pp)=ppr at hspec himpl hrok
 generalize hgen9:((doActRes (PWork.mk (PDraft.mk d1 f1 ss1 d2 f2 ss2 st) P pp m) k a b).1.m)=mr at hspec himpl hrok
 generalize hgen10:((doActRes (PWork.mk (PDraft.mk d1 f1 ss1 d2 f2 ss2 st) P pp m) k a b).2)=rb at hspec himpl hrok
 clear hgen0 hgen1 hgen2 hgen3 hgen4 hgen5 hgen6 hgen7 hgen8 hgen9 hgen10
 have HSPEC:=hide hspec
 have HIMPL:=hide himpl
 clear hspec himpl
 have HOKW:=hide hokW
 clear hokW
 have HOKR:=hide hrok
 clear hrok
 go_enter Tryz.func12,Tryz.ntmps12
 go_wp2_with fail
 generalize e_:(World.alloc _ _)=w1
 symm at e_
 have qif:=hkq e_ (blk_alloc (bnk w.heap.size) _)
 have qjf:=hkq e_ (bnk (w.heap.size+1))
 have qvd:Below w.heap.size w w1:=by rw [e_];exact bel
 have qkf:=qvd.size
 have qvi:w.heap.size+2≤w1.heap.size:=(by rw [e_];simp;try omega)
 clear e_
 refine (l_szWorkshop d1 f1 ss1 d2 f2 ss2 st P pp m w.heap.size A1 A2 A3 A4 A5 c1 c2 c3 c4 c5 (1048576) _ qkf (hSW.raw.below qvd) (by omega) (by omega)).mono ?_
 rintro e w2 ⟨rfl,qwd⟩
 have qbd:=blk_next qif qwd
 have qcd:=blk_next qjf qwd
 have qxd:Below w.heap.size w w2:=qvd.trans (Below.mono qwd qkf)
 have qyd:=qxd.size
 have qwi:w1.heap.size≤w2.heap.size:=qwd.size
 clear qif qjf qvd qkf qwd
 have qxi:szW (PDraft.mk d1 f1 ss1 d2 f2 ss2 st) P pp (1048576)≤1048576:=szW_ub _ _ _ _ (by omega)
 obtain ⟨qab,qbb,qcb,qdb,qeb,qfb,qgb,qhb,qib,qjb,qkb⟩:=blk10 qbd
 obtain ⟨qlb,qmb,qnb,qob⟩:=blk3 qcd
 go_upto_region 5 with fail
 have hSW_c:=hSW.below qxd
 go_cut [6,7] (fun s6 s7 wx=>∃ (g_w0:Nat) (A1_w0:Option Addr) (c1_w0:Nat) (A2_w0:Option Addr) (c2_w0:Nat) (A3_w0:Option Addr) (c3_w0:Nat) (A4_w0:Option Addr) (c4_w0:Nat) (A5_w0:Option Addr) (c5_w0:Nat),s6=.pointer (some ⟨g_w0,0,none⟩)∧s7=.int .i64 rb∧wx.heap[g_w0]?=some (.cells #[.int .i64 d1r,.int .i64 f1r,.slice A1_w0 ss1r.length c1_w0,.int .i64 d2r,.int .i64 f2r,.slice A2_w0 ss2r.length c2_w0,.slice A3_w0 str.length c3_w0,.slice A4_w0 Pr.length c4_w0,.slice A5_w0 ppr.length c5_w0,.int .i64 mr] 41 (0,0))∧OwnW wx (w2.heap.size) (wx.heap.size) A1_w0 c1_w0 A2_w0 c2_w0 A3_w0 c3_w0 A4_w0 c4_w0 A5_w0 c5_w0 (PDraft.mk d1r f1r ss1r d2r f2r ss2r str) Pr ppr∧Below w2.heap.size w2 wx)
 case first =>
  go_region_held3 (fun W=>(∀ b o,b<w2.heap.size→W.cell? ⟨b,o,none⟩=(w2).cell? ⟨b,o,none⟩)∧(∀ b o,b<w2.heap.size→W.frozen? ⟨b,o,none⟩=(w2).frozen? ⟨b,o,none⟩)∧Below (w2.heap.size) (w2) W) (exact keep_of bel) (first|(go_at_call 17;have hq:=(‹_∧_∧Below _ _ _›).2.2;refine (u_toWorkshop d1 f1 ss1 d2 f2 ss2 st P pp m w.heap.size A1 A2 A3 A4 A5 c1 c2 c3 c4 c5 _ ?_ ?_).mono ?_;exact hSW_c.below (hq.mono qyd);exact Nat.le_trans qyd hq.size;rintro e wt1_0 ⟨A1_t1_0,c1_t1_0,A2_t1_0,c2_t1_0,A3_t1_0,c3_t1_0,A4_t1_0,c4_t1_0,A5_t1_0,c5_t1_0,rfl,hor1_0,hbt1_0⟩;(have hot1_0:=hor1_0.wide (lo':=w2.heap.size) (hi':=wt1_0.heap.size) (by first|exact hq.size|exact Nat.le_refl _) (Nat.le_refl _));clear hor1_0;have hqs1_0:=hq.size;have hbs1_0:=hbt1_0.size;(try simp at hqs1_0);(try simp at hbs1_0);obtain ⟨hcb1_0,hfb1_0⟩:=bcell hbt1_0;(try (have qyh:w2.heap.size<wt1_0.heap.size:=(by omega))))|(go_at_call 45;have hq:=(‹_∧_∧Below _ _ _›).2.2;refine (l_toAct _ _ _ _).mono ?_;rintro e wt1_1 ⟨rfl,hbt1_1⟩;have hqs1_1:=hq.size;have hbs1_1:=hbt1_1.size;(try simp at hqs1_1);(try simp at hbs1_1);(have hot1_0:OwnW wt1_1 (w2.heap.size) (wt1_0.heap.size) A1_t1_0 c1_t1_0 A2_t1_0 c2_t1_0 A3_t1_0 c3_t1_0 A4_t1_0 c4_t1_0 A5_t1_0 c5_t1_0 (PDraft.mk d1 f1 ss1 d2 f2 ss2 st) P pp:=(by first|exact hot1_0.below hbt1_1|exact (hot1_0.alloc _).below hbt1_1));obtain ⟨hcb1_1,hfb1_1⟩:=bcell hbt1_1;(try (have qzh:w2.heap.size<wt1_1.heap.size:=(by omega)));(try (have qch:wt1_0.heap.size<wt1_1.heap.size:=(by omega))))|(go_at_call 44;have hqf:=(‹_∧_∧Below _ _ _›).2.2;(first|refine (unhide HSPEC _ _ _ _ _ _ _ _ _ _ _ (hot1_0.rd ((unhide HOKW).more (by omega)))).mono ?_|refine (unhide HSPEC _ _ _ _ _ _ _ _ _ _ _ ((hot1_0.alloc _).rd ((unhide HOKW).more (by omega)))).mono ?_);rintro e wf1 ⟨A1_f1,c1_f1,A2_f1,c2_f1,A3_f1,c3_f1,A4_f1,c4_f1,A5_f1,c5_f1,rfl,horf1,hbf1⟩;(have hof1:=horf1.wide (lo':=w2.heap.size) (hi':=wf1.heap.size) (by first|exact hqf.size|exact Nat.le_refl _) (Nat.le_refl _));clear horf1;have hqsf:=hqf.size;have hbsf:=hbf1.size;(try simp at hqsf);(try simp at hbsf);obtain ⟨hcbf1,hfbf1⟩:=bcell hbf1;(try (have qmi:w2.heap.size<wf1.heap.size:=(by omega)));(try (have qrh:wt1_0.heap.size<wf1.heap.size:=(by omega)));(try (have qsh:wt1_1.heap.size<wf1.heap.size:=(by omega)))))
  all_goals (go_wp2_with fail)
  all_goals (go_meet)
  all_goals (
   refine ⟨_,A1_f1,c1_f1,A2_f1,c2_f1,A3_f1,c3_f1,A4_f1,c4_f1,A5_f1,c5_f1,rfl,rfl,?_⟩
   first
    |((with_reducible refine leafN ?_ hof1 ?_ ?_);(first|exact bel);(first|rfl|(simp;first|done|fail));(first|omega|(simp;first|done|fail)|(simp;omega)))
    |((with_reducible apply leafR (ho:=hof1));(case hk=>(focus ((repeat (first|(with_reducible exact blk_new_at _ _ (by first|rfl|(simp;first|done|fail)))|(with_reducible refine blk_next ?_ hbf1)|(with_reducible refine blk_next ?_ hbt1_1)|(with_reducible refine blk_next ?_ hbt1_0)|(with_reducible refine blk_drew ?_)|(with_reducible refine blk_alloc ?_ _)));(first|done|fail))));(case hb=>exact bel);(case hg=>first|omega|(simp;first|done|fail)|(simp;omega))))
 obtain ⟨g_w0,A1_w0,c1_w0,A2_w0,c2_w0,A3_w0,c3_w0,A4_w0,c4_w0,A5_w0,c5_w0,rfl,rfl,hkn,hon,hbn⟩:=hcut
 obtain ⟨w3,hwc⟩:∃ W,W=wc:=⟨_,rfl⟩
 subst hwc
 clear qab qbb qcb qdb qeb qfb qgb qhb qib qjb qkb qlb qmb qnb qob
 have qdd:=blk_next qbd hbn
 have qlf:=blk_next qcd hbn
 have qzd:Below w.heap.size w w3:=qxd.trans (Below.mono hbn qyd)
 have qmf:=qzd.size
 have qyi:w2.heap.size≤w3.heap.size:=hbn.size
 clear qbd qcd qxd qyd hbn
 have qnf:=hon
 clear hon
 have qof:=hkn
 clear hkn
 clear hSW_c
 obtain ⟨qab,qbb,qcb,qdb,qeb,qfb,qgb,qhb,qib,qjb,qkb⟩:=blk10 qdd
 go_wp2_with fail
 refine (u_toWorkshop d1 f1 ss1 d2 f2 ss2 st P pp m w.heap.size A1 A2 A3 A4 A5 c1 c2 c3 c4 c5 _ (hSW.below qzd) qmf).mono ?_
 rintro e w4 ⟨A1_x0,c1_x0,A2_x0,c2_x0,A3_x0,c3_x0,A4_x0,c4_x0,A5_x0,c5_x0,rfl,hon,qpb⟩
 clear qab qbb qcb qdb qeb qfb qgb qhb qib qjb qkb
 have qpf:=blk_next qdd qpb
 have qed:=blk_next qlf qpb
 have qqf:=blk_next qof qpb
 have qrf:=qnf.below qpb
 have qwg:Below w.heap.size w w4:=qzd.trans (Below.mono qpb qmf)
 have qeh:=qwg.size
 have qzi:w3.heap.size≤w4.heap.size:=qpb.size
 clear qdd qlf qof qnf qzd qmf qpb
 have qsf:=hon
 clear hon
 obtain ⟨qlb,qmb,qnb,qob⟩:=blk3 qed
 go_upto_region 7 with fail
 clear qlb qmb qnb qob
 generalize e_:(World.alloc _ _)=w5
 symm at e_
 have qtf:=hkq e_ (blk_alloc qpf _)
 have qfd:=hkq e_ (blk_alloc qed _)
 have quf:=hkq e_ (blk_alloc qqf _)
 have qgd:=hkq e_ (bnk w4.heap.size)
 have qhd:=(qrf.alloc (.cells #[.int .i64 d1,.int .i64 f1,.slice A1_x0 ss1.length c1_x0,.int .i64 d2,.int .i64 f2,.slice A2_x0 ss2.length c2_x0,.slice A3_x0 st.length c3_x0,.slice A4_x0 P.length c4_x0,.slice A5_x0 pp.length c5_x0,.int .i64 m] 41))
 rw [← e_] at qhd
 have qqb:=(qsf.alloc (.cells #[.int .i64 d1,.int .i64 f1,.slice A1_x0 ss1.length c1_x0,.int .i64 d2,.int .i64 f2,.slice A2_x0 ss2.length c2_x0,.slice A3_x0 st.length c3_x0,.slice A4_x0 P.length c4_x0,.slice A5_x0 pp.length c5_x0,.int .i64 m] 41))
 rw [← e_] at qqb
 have qvf:Below w.heap.size w w5:=by rw [e_];exact bel
 have qxg:=qvf.size
 have qaj:w4.heap.size+1≤w5.heap.size:=(by rw [e_];simp;try omega)
 clear e_
 clear qpf qed qqf qrf qsf qwg qeh
 obtain ⟨qlb,qmb,qnb,qob⟩:=blk3 qfd
 obtain ⟨qsb,qtb,qub,qvb,qwb,qxb,qyb,qzb,qac,qbc,qcc⟩:=blk10 qgd
 go_cut [9,10] (fun s9 s10 wx=>∃ (g_g0:Nat) (A1_g0:Option Addr) (c1_g0:Nat) (A2_g0:Option Addr) (c2_g0:Nat) (A3_g0:Option Addr) (c3_g0:Nat) (A4_g0:Option Addr) (c4_g0:Nat) (A5_g0:Option Addr) (c5_g0:Nat),s9=.pointer (some ⟨g_g0,0,none⟩)∧s10=.int .i64 rb∧wx.heap[g_g0]?=some (.cells #[.int .i64 d1r,.int .i64 f1r,.slice A1_g0 ss1r.length c1_g0,.int .i64 d2r,.int .i64 f2r,.slice A2_g0 ss2r.length c2_g0,.slice A3_g0 str.length c3_g0,.slice A4_g0 Pr.length c4_g0,.slice A5_g0 ppr.length c5_g0,.int .i64 mr] 41 (0,0))∧OwnW wx (w5.heap.size) (wx.heap.size) A1_g0 c1_g0 A2_g0 c2_g0 A3_g0 c3_g0 A4_g0 c4_g0 A5_g0 c5_g0 (PDraft.mk d1r f1r ss1r d2r f2r ss2r str) Pr ppr∧Below w5.heap.size w5 wx)
 case first =>
  go_region_held3 (fun W=>(∀ b o,b<w5.heap.size→W.cell? ⟨b,o,none⟩=(w5).cell? ⟨b,o,none⟩)∧(∀ b o,b<w5.heap.size→W.frozen? ⟨b,o,none⟩=(w5).frozen? ⟨b,o,none⟩)∧Below (w5.heap.size) (w5) W) (exact keep_of bel) (first|(go_at_call 45;have hq:=(‹_∧_∧Below _ _ _›).2.2;refine (l_toAct _ _ _ _).mono ?_;rintro e wt2_0 ⟨rfl,hbt2_0⟩;have hqs2_0:=hq.size;have hbs2_0:=hbt2_0.size;(try simp at hqs2_0);(try simp at hbs2_0);obtain ⟨hcb2_0,hfb2_0⟩:=bcell hbt2_0;(try (have qai:w5.heap.size<wt2_0.heap.size:=(by omega))))|(go_at_call 46;have hqf:=(‹_∧_∧Below _ _ _›).2.2;(first|refine (unhide HIMPL _ _ _ _ _ _ _ _ _ _ _ ((qqb.below hqf).rd ((unhide HOKW).more (by omega)))).mono ?_);rintro e wf2 ⟨A1_f2,c1_f2,A2_f2,c2_f2,A3_f2,c3_f2,A4_f2,c4_f2,A5_f2,c5_f2,rfl,horf2,hbf2⟩;(have hof2:=horf2.wide (lo':=w5.heap.size) (hi':=wf2.heap.size) (by first|exact hqf.size|exact Nat.le_refl _) (Nat.le_refl _));clear horf2;have hqsf:=hqf.size;have hbsf:=hbf2.size;(try simp at hqsf);(try simp at hbsf);obtain ⟨hcbf2,hfbf2⟩:=bcell hbf2;(try (have qni:w5.heap.size<wf2.heap.size:=(by omega)));(try (have qth:wt2_0.heap.size<wf2.heap.size:=(by omega)))))
  all_goals (go_wp2_with fail)
  all_goals (go_meet)
  all_goals (
   refine ⟨_,A1_f2,c1_f2,A2_f2,c2_f2,A3_f2,c3_f2,A4_f2,c4_f2,A5_f2,c5_f2,rfl,rfl,?_⟩
   first
    |((with_reducible refine leafN ?_ hof2 ?_ ?_);(first|exact bel);(first|rfl|(simp;first|done|fail));(first|omega|(simp;first|done|fail)|(simp;omega)))
    |((with_reducible apply leafR (ho:=hof2));(case hk=>(focus ((repeat (first|(with_reducible exact blk_new_at _ _ (by first|rfl|(simp;first|done|fail)))|(with_reducible refine blk_next ?_ hbf2)|(with_reducible refine blk_next ?_ hbt2_0)|(with_reducible refine blk_drew ?_)|(with_reducible refine blk_alloc ?_ _)));(first|done|fail))));(case hb=>exact bel);(case hg=>first|omega|(simp;first|done|fail)|(simp;omega))))
 obtain ⟨g_g0,A1_g0,c1_g0,A2_g0,c2_g0,A3_g0,c3_g0,A4_g0,c4_g0,A5_g0,c5_g0,rfl,rfl,hkn,hon,hbn⟩:=hcut
 obtain ⟨w6,hwc⟩:∃ W,W=wc:=⟨_,rfl⟩
 subst hwc
 clear qlb qmb qnb qob qsb qtb qub qvb qwb qxb qyb qzb qac qbc qcc
 have qwf:=blk_next qtf hbn
 have qxf:=blk_next qfd hbn
 have qid:=blk_next quf hbn
 have qyf:=blk_next qgd hbn
 have qjd:=qhd.below hbn
 have qzf:=qqb.below hbn
 have qag:Below w.heap.size w w6:=qvf.trans (Below.mono hbn qxg)
 have qyg:=qag.size
 have qbj:w5.heap.size≤w6.heap.size:=hbn.size
 clear qtf qfd quf qgd qhd qqb qvf qxg hbn
 have qkd:=hon
 clear hon
 have qld:=hkn
 clear hkn
 obtain ⟨qdc,qec,qfc,qgc,qhc,qic,qjc,qkc,qlc,qmc,qnc⟩:=blk10 qid
 obtain ⟨qma,qna,qoa,qpa,qqa,qra,qsa,qta,qua,qva,qwa⟩:=blk10 qld
 go_wp2_with fail
 refine (u_eqWorkshop d1r f1r ss1r d2r f2r ss2r str Pr ppr mr _ _ _ _ _ _ _ _ _ _ _ _ _ _ _ _ _ _ _ _ _ _ _ _ _ qkd qjd ((unhide HOKR).more (by omega))).mono ?_
 rintro e w7 ⟨rfl,qxa⟩
 clear qdc qec qfc qgc qhc qic qjc qkc qlc qmc qnc qma qna qoa qpa qqa qra qsa qta qua qva qwa
 have qmd:=blk_next qwf qxa
 have qbg:=blk_next qxf qxa
 have qcg:=blk_next qid qxa
 have qnd:=blk_next qyf qxa
 have qdg:=blk_next qld qxa
 have qeg:=qjd.below qxa
 have qrb:=qzf.below qxa
 have qfg:=qkd.below qxa
 have qae:Below w.heap.size w w7:=qag.trans (Below.mono qxa qyg)
 have qbe:=qae.size
 have qcj:w6.heap.size≤w7.heap.size:=qxa.size
 clear qwf qxf qid qyf qld qjd qzf qkd qag qyg qxa
 obtain ⟨qab,qbb,qcb,qdb,qeb,qfb,qgb,qhb,qib,qjb,qkb⟩:=blk10 qmd
 obtain ⟨qsb,qtb,qub,qvb,qwb,qxb,qyb,qzb,qac,qbc,qcc⟩:=blk10 qnd
 go_wp2_with fail
 have hS_c:=hSW.below qae
 go_region_held3 (fun W=>(∀ b o,b<w7.heap.size→W.cell? ⟨b,o,none⟩=(w7).cell? ⟨b,o,none⟩)∧(∀ b o,b<w7.heap.size→W.frozen? ⟨b,o,none⟩=(w7).frozen? ⟨b,o,none⟩)∧Below (w7.heap.size) (w7) W) (exact keep_of bel) (first|(go_at_call 17;have hq:=(‹_∧_∧Below _ _ _›).2.2;refine (u_toWorkshop d1 f1 ss1 d2 f2 ss2 st P pp m w.heap.size A1 A2 A3 A4 A5 c1 c2 c3 c4 c5 _ ?_ ?_).mono ?_;exact hS_c.below (hq.mono qbe);exact Nat.le_trans qbe hq.size;rintro e wa_w8 ⟨A1_aw8,c1_aw8,A2_aw8,c2_aw8,A3_aw8,c3_aw8,A4_aw8,c4_aw8,A5_aw8,c5_aw8,rfl,hoa,hba⟩)|(go_at_call 19;have hq2:=(‹_∧_∧Below _ _ _›).2.2;(first|refine (u_eqWorkshop d1 f1 ss1 d2 f2 ss2 st P pp m _ _ _ _ _ _ _ _ _ _ _ _ _ _ _ _ _ _ _ _ _ _ _ _ _ (qrb.below hq2) hoa ((unhide HOKW).more (by omega))).mono ?_|refine (u_eqWorkshop d1 f1 ss1 d2 f2 ss2 st P pp m _ _ _ _ _ _ _ _ _ _ _ _ _ _ _ _ _ _ _ _ _ _ _ _ _ (qrb.below hq2) hoa.drew ((unhide HOKW).more (by omega))).mono ?_);rintro e w8 ⟨rfl,hbz⟩))
 have hb67:Below w7.heap.size w7 wa_w8:=(Below.refl _ _).drew.trans hba
 have hz7:w7.heap.size≤wa_w8.heap.size:=hba.size
 have hb68:Below w7.heap.size w7 w8:=hb67.trans (hbz.mono hz7)
 clear hS_c hoa hba hbz hb67 hz7
 clear qab qbb qcb qdb qeb qfb qgb qhb qib qjb qkb qsb qtb qub qvb qwb qxb qyb qzb qac qbc qcc
 have qgg:=blk_next qmd hb68
 have qhg:=blk_next qbg hb68
 have qig:=blk_next qcg hb68
 have qod:=blk_next qnd hb68
 have qjg:=blk_next qdg hb68
 have qkg:=qeg.below hb68
 have qlg:=qrb.below hb68
 have qmg:=qfg.below hb68
 have qng:Below w.heap.size w w8:=qae.trans (Below.mono hb68 qbe)
 have qfh:=qng.size
 have qdj:w7.heap.size≤w8.heap.size:=hb68.size
 clear qmd qbg qcg qnd qdg qeg qrb qfg qae qbe hb68
 obtain ⟨qsb,qtb,qub,qvb,qwb,qxb,qyb,qzb,qac,qbc,qcc⟩:=blk10 qod
 go_wp2_with fail
 refine (u_markWorkshop d1 f1 ss1 d2 f2 ss2 st P pp m _ _ _ _ _ _ _ _ _ _ _ _ (1) _ qlg (by have qja:=(unhide HOKW).d.l1;have qka:=(unhide HOKW).d.l2;have qla:=(unhide HOKW).d.l3;simp only at qja qka qla;have qpd:=cntI_le (unhide HOKW).i;have qqd:=(unhide HOKW).p;omega) (by have qja:=(unhide HOKW).d.l1;have qka:=(unhide HOKW).d.l2;have qla:=(unhide HOKW).d.l3;simp only at qja qka qla;have qpd:=cntI_le (unhide HOKW).i;have qqd:=(unhide HOKW).p;omega) ((unhide HOKW).more (by omega))).mono ?_
 rintro e w9 ⟨rfl,qbi,qza⟩
 clear qbi
 clear qsb qtb qub qvb qwb qxb qyb qzb qac qbc qcc
 have qog:=qza.box qgg
 have qpg:=qza.box qhg
 have qrd:=qza.box qig
 have qqg:=qza.box qod
 have qsd:=qza.box qjg
 have qtd:=qkg.within qza (by omega)
 have qud:=qmg.within qza (by omega)
 have qrg:Below w.heap.size w w9:=qng.trans (qza.below (by omega) (by omega))
 have qzg:=qrg.size
 have qej:w8.heap.size≤w9.heap.size:=qza.size
 clear qgg qhg qig qod qjg qkg qlg qmg qng qfh qza
 obtain ⟨qdc,qec,qfc,qgc,qhc,qic,qjc,qkc,qlc,qmc,qnc⟩:=blk10 qrd
 obtain ⟨qma,qna,qoa,qpa,qqa,qra,qsa,qta,qua,qva,qwa⟩:=blk10 qsd
 go_wp2_with fail
 refine (u_eqWorkshop d1r f1r ss1r d2r f2r ss2r str Pr ppr mr _ _ _ _ _ _ _ _ _ _ _ _ _ _ _ _ _ _ _ _ _ _ _ _ _ qud qtd ((unhide HOKR).more (by omega))).mono ?_
 rintro e w10 ⟨rfl,qha⟩
 clear qdc qec qfc qgc qhc qic qjc qkc qlc qmc qnc qma qna qoa qpa qqa qra qsa qta qua qva qwa
 have qge:=blk_next qog qha
 have qhe:=blk_next qpg qha
 have qie:=blk_next qrd qha
 have qje:=blk_next qqg qha
 have qoc:=blk_next qsd qha
 have qke:=qtd.below qha
 have qle:=qud.below qha
 have qce:Below w.heap.size w w10:=qrg.trans (Below.mono qha qzg)
 have qbh:=qce.size
 have qoi:w9.heap.size≤w10.heap.size:=qha.size
 clear qog qpg qrd qqg qsd qtd qud qrg qzg qha
 obtain ⟨qma,qna,qoa,qpa,qqa,qra,qsa,qta,qua,qva,qwa⟩:=blk10 qoc
 go_wp2_with fail
 refine (u_markWorkshop d1r f1r ss1r d2r f2r ss2r str Pr ppr mr _ _ _ _ _ _ _ _ _ _ _ _ (1) _ qle (by have qja:=(unhide HOKW).d.l1;have qka:=(unhide HOKW).d.l2;have qla:=(unhide HOKW).d.l3;simp only at qja qka qla;have qpd:=cntI_le (unhide HOKW).i;have qqd:=(unhide HOKW).p;have qaa:=(unhide HOKR).d.l1;have qba:=(unhide HOKR).d.l2;have qca:=(unhide HOKR).d.l3;simp only at qaa qba qca;have qda:=cntI_le (unhide HOKR).i;have qea:=(unhide HOKR).p;omega) (by have qja:=(unhide HOKW).d.l1;have qka:=(unhide HOKW).d.l2;have qla:=(unhide HOKW).d.l3;simp only at qja qka qla;have qpd:=cntI_le (unhide HOKW).i;have qqd:=(unhide HOKW).p;have qaa:=(unhide HOKR).d.l1;have qba:=(unhide HOKR).d.l2;have qca:=(unhide HOKR).d.l3;simp only at qaa qba qca;have qda:=cntI_le (unhide HOKR).i;have qea:=(unhide HOKR).p;omega) ((unhide HOKR).more (by omega))).mono ?_
 rintro e w11 ⟨rfl,qah,qya⟩
 clear qma qna qoa qpa qqa qra qsa qta qua qva qwa
 have qme:=qya.box qge
 have qne:=qya.box qhe
 have qoe:=qya.box qie
 have qpe:=qya.box qje
 have qpc:=qya.box qoc
 have qqe:=qke.within qya (by omega)
 have qde:Below w.heap.size w w11:=qce.trans (qya.below (by omega) (by omega))
 have qsg:=qde.size
 have qpi:w10.heap.size≤w11.heap.size:=qya.size
 clear qge qhe qie qje qoc qke qle qce qbh qya
 have qqc:=qah
 clear qah
 obtain ⟨qma,qna,qoa,qpa,qqa,qra,qsa,qta,qua,qva,qwa⟩:=blk10 qpc
 go_wp2_with fail
 refine (u_heldWorkshop d1r f1r d2r f2r mr Pr _ _ _ _ _ _ _ _ _ _ _ _ _ _ _ _ (1) _ qqc (by have qaa:=(unhide HOKR).d.l1;have qba:=(unhide HOKR).d.l2;have qca:=(unhide HOKR).d.l3;simp only at qaa qba qca;have qda:=cntI_le (unhide HOKR).i;have qea:=(unhide HOKR).p;omega) (by have qaa:=(unhide HOKR).d.l1;have qba:=(unhide HOKR).d.l2;have qca:=(unhide HOKR).d.l3;simp only at qaa qba qca;have qda:=cntI_le (unhide HOKR).i;have qea:=(unhide HOKR).p;omega) (by have qaa:=(unhide HOKR).d.l1;have qba:=(unhide HOKR).d.l2;have qca:=(unhide HOKR).d.l3;simp only at qaa qba qca;have qda:=cntI_le (unhide HOKR).i;have qea:=(unhide HOKR).p;omega) (by have qaa:=(unhide HOKR).d.l1;have qba:=(unhide HOKR).d.l2;have qca:=(unhide HOKR).d.l3;simp only at qaa qba qca;have qda:=cntI_le (unhide HOKR).i;have qea:=(unhide HOKR).p;omega) (by have qaa:=(unhide HOKR).d.l1;have qba:=(unhide HOKR).d.l2;have qca:=(unhide HOKR).d.l3;simp only at qaa qba qca;have qda:=cntI_le (unhide HOKR).i;have qea:=(unhide HOKR).p;omega) ((unhide HOKR).more (by omega)).i (by have qaa:=(unhide HOKR).d.l1;have qba:=(unhide HOKR).d.l2;have qca:=(unhide HOKR).d.l3;simp only at qaa qba qca;have qda:=cntI_le (unhide HOKR).i;have qea:=(unhide HOKR).p;omega)).mono ?_
 rintro e w12 ⟨rfl,qia⟩
 clear qma qna qoa qpa qqa qra qsa qta qua qva qwa
 have qrc:=blk_next qme qia
 have qsc:=blk_next qne qia
 have qre:=blk_next qoe qia
 have qse:=blk_next qpe qia
 have qte:=blk_next qpc qia
 have que:=qqe.below qia
 have qve:=qqc.below qia
 have qzc:Below w.heap.size w w12:=qde.trans (Below.mono qia qsg)
 have qad:=qzc.size
 have qqi:w11.heap.size≤w12.heap.size:=qia.size
 clear qme qne qoe qpe qpc qqe qqc qde qsg qia
 obtain ⟨qab,qbb,qcb,qdb,qeb,qfb,qgb,qhb,qib,qjb,qkb⟩:=blk10 qrc
 obtain ⟨qlb,qmb,qnb,qob⟩:=blk3 qsc
 go_upto_region 24 with fail
 have hSW_c:=hSW.below qzc
 go_cut [14,15] (fun s14 s15 wx=>∃ (g_h0:Nat) (A1_h0:Option Addr) (c1_h0:Nat) (A2_h0:Option Addr) (c2_h0:Nat) (A3_h0:Option Addr) (c3_h0:Nat) (A4_h0:Option Addr) (c4_h0:Nat) (A5_h0:Option Addr) (c5_h0:Nat),s14=.pointer (some ⟨g_h0,0,none⟩)∧s15=.int .i64 rb∧wx.heap[g_h0]?=some (.cells #[.int .i64 d1r,.int .i64 f1r,.slice A1_h0 ss1r.length c1_h0,.int .i64 d2r,.int .i64 f2r,.slice A2_h0 ss2r.length c2_h0,.slice A3_h0 str.length c3_h0,.slice A4_h0 Pr.length c4_h0,.slice A5_h0 ppr.length c5_h0,.int .i64 mr] 41 (0,0))∧OwnW wx (w12.heap.size) (wx.heap.size) A1_h0 c1_h0 A2_h0 c2_h0 A3_h0 c3_h0 A4_h0 c4_h0 A5_h0 c5_h0 (PDraft.mk d1r f1r ss1r d2r f2r ss2r str) Pr ppr∧Below w12.heap.size w12 wx)
 case first =>
  go_region_held3 (fun W=>(∀ b o,b<w12.heap.size→W.cell? ⟨b,o,none⟩=(w12).cell? ⟨b,o,none⟩)∧(∀ b o,b<w12.heap.size→W.frozen? ⟨b,o,none⟩=(w12).frozen? ⟨b,o,none⟩)∧Below (w12.heap.size) (w12) W) (exact keep_of bel) (first|(go_at_call 17;have hq:=(‹_∧_∧Below _ _ _›).2.2;refine (u_toWorkshop d1 f1 ss1 d2 f2 ss2 st P pp m w.heap.size A1 A2 A3 A4 A5 c1 c2 c3 c4 c5 _ ?_ ?_).mono ?_;exact hSW_c.below (hq.mono qad);exact Nat.le_trans qad hq.size;rintro e wt3_0 ⟨A1_t3_0,c1_t3_0,A2_t3_0,c2_t3_0,A3_t3_0,c3_t3_0,A4_t3_0,c4_t3_0,A5_t3_0,c5_t3_0,rfl,hor3_0,hbt3_0⟩;(have hot3_0:=hor3_0.wide (lo':=w12.heap.size) (hi':=wt3_0.heap.size) (by first|exact hq.size|exact Nat.le_refl _) (Nat.le_refl _));clear hor3_0;have hqs3_0:=hq.size;have hbs3_0:=hbt3_0.size;(try simp at hqs3_0);(try simp at hbs3_0);obtain ⟨hcb3_0,hfb3_0⟩:=bcell hbt3_0;(try (have quh:w12.heap.size<wt3_0.heap.size:=(by omega))))|(go_at_call 45;have hq:=(‹_∧_∧Below _ _ _›).2.2;refine (l_toAct _ _ _ _).mono ?_;rintro e wt3_1 ⟨rfl,hbt3_1⟩;have hqs3_1:=hq.size;have hbs3_1:=hbt3_1.size;(try simp at hqs3_1);(try simp at hbs3_1);(have hot3_0:OwnW wt3_1 (w12.heap.size) (wt3_0.heap.size) A1_t3_0 c1_t3_0 A2_t3_0 c2_t3_0 A3_t3_0 c3_t3_0 A4_t3_0 c4_t3_0 A5_t3_0 c5_t3_0 (PDraft.mk d1 f1 ss1 d2 f2 ss2 st) P pp:=(by first|exact hot3_0.below hbt3_1|exact (hot3_0.alloc _).below hbt3_1));obtain ⟨hcb3_1,hfb3_1⟩:=bcell hbt3_1;(try (have qvh:w12.heap.size<wt3_1.heap.size:=(by omega)));(try (have qdh:wt3_0.heap.size<wt3_1.heap.size:=(by omega))))|(go_at_call 46;have hqf:=(‹_∧_∧Below _ _ _›).2.2;(first|refine (unhide HIMPL _ _ _ _ _ _ _ _ _ _ _ (hot3_0.rd ((unhide HOKW).more (by omega)))).mono ?_|refine (unhide HIMPL _ _ _ _ _ _ _ _ _ _ _ ((hot3_0.alloc _).rd ((unhide HOKW).more (by omega)))).mono ?_);rintro e wf3 ⟨A1_f3,c1_f3,A2_f3,c2_f3,A3_f3,c3_f3,A4_f3,c4_f3,A5_f3,c5_f3,rfl,horf3,hbf3⟩;(have hof3:=horf3.wide (lo':=w12.heap.size) (hi':=wf3.heap.size) (by first|exact hqf.size|exact Nat.le_refl _) (Nat.le_refl _));clear horf3;have hqsf:=hqf.size;have hbsf:=hbf3.size;(try simp at hqsf);(try simp at hbsf);obtain ⟨hcbf3,hfbf3⟩:=bcell hbf3;(try (have qci:w12.heap.size<wf3.heap.size:=(by omega)));(try (have qwh:wt3_0.heap.size<wf3.heap.size:=(by omega)));(try (have qxh:wt3_1.heap.size<wf3.heap.size:=(by omega)))))
  all_goals (go_wp2_with fail)
  all_goals (go_meet)
  all_goals (
   refine ⟨_,A1_f3,c1_f3,A2_f3,c2_f3,A3_f3,c3_f3,A4_f3,c4_f3,A5_f3,c5_f3,rfl,rfl,?_⟩
   first
    |((with_reducible refine leafN ?_ hof3 ?_ ?_);(first|exact bel);(first|rfl|(simp;first|done|fail));(first|omega|(simp;first|done|fail)|(simp;omega)))
    |((with_reducible apply leafR (ho:=hof3));(case hk=>(focus ((repeat (first|(with_reducible exact blk_new_at _ _ (by first|rfl|(simp;first|done|fail)))|(with_reducible refine blk_next ?_ hbf3)|(with_reducible refine blk_next ?_ hbt3_1)|(with_reducible refine blk_next ?_ hbt3_0)|(with_reducible refine blk_drew ?_)|(with_reducible refine blk_alloc ?_ _)));(first|done|fail))));(case hb=>exact bel);(case hg=>first|omega|(simp;first|done|fail)|(simp;omega))))
 obtain ⟨g_h0,A1_h0,c1_h0,A2_h0,c2_h0,A3_h0,c3_h0,A4_h0,c4_h0,A5_h0,c5_h0,rfl,rfl,hkn,hon,hbn⟩:=hcut
 obtain ⟨w13,hwc⟩:∃ W,W=wc:=⟨_,rfl⟩
 subst hwc
 clear qab qbb qcb qdb qeb qfb qgb qhb qib qjb qkb qlb qmb qnb qob
 have qwe:=blk_next qrc hbn
 have qxe:=blk_next qsc hbn
 have qtc:=blk_next qre hbn
 have qye:=blk_next qse hbn
 have qze:=blk_next qte hbn
 have quc:=que.below hbn
 have qaf:=qve.below hbn
 have qee:Below w.heap.size w w13:=qzc.trans (Below.mono hbn qad)
 have qtg:=qee.size
 have qri:w12.heap.size≤w13.heap.size:=hbn.size
 clear qrc qsc qre qse qte que qve qzc qad hbn
 have qvc:=hon
 clear hon
 have qwc:=hkn
 clear hkn
 clear hSW_c
 obtain ⟨qdc,qec,qfc,qgc,qhc,qic,qjc,qkc,qlc,qmc,qnc⟩:=blk10 qtc
 obtain ⟨qgh,qhh,qih,qjh,qkh,qlh,qmh,qnh,qoh,qph,qqh⟩:=blk10 qwc
 go_wp2_with fail
 refine (u_eqWorkshop d1r f1r ss1r d2r f2r ss2r str Pr ppr mr _ _ _ _ _ _ _ _ _ _ _ _ _ _ _ _ _ _ _ _ _ _ _ _ _ qvc quc ((unhide HOKR).more (by omega))).mono ?_
 rintro e w14 ⟨rfl,qfa⟩
 clear qdc qec qfc qgc qhc qic qjc qkc qlc qmc qnc qgh qhh qih qjh qkh qlh qmh qnh qoh qph qqh
 have qbf:=blk_next qwe qfa
 have qcf:=blk_next qxe qfa
 have qdf:=blk_next qtc qfa
 have qef:=blk_next qye qfa
 have qxc:=blk_next qze qfa
 have qff:=blk_next qwc qfa
 have qgf:=quc.below qfa
 have qyc:=qaf.below qfa
 have qhf:=qvc.below qfa
 have qfe:Below w.heap.size w w14:=qee.trans (Below.mono qfa qtg)
 have qug:=qfe.size
 have qsi:w13.heap.size≤w14.heap.size:=qfa.size
 clear qwe qxe qtc qye qze qwc quc qaf qvc qee qtg qfa
 obtain ⟨qma,qna,qoa,qpa,qqa,qra,qsa,qta,qua,qva,qwa⟩:=blk10 qxc
 go_wp2_with fail
 refine (u_heldWorkshop d1r f1r d2r f2r mr Pr _ _ _ _ _ _ _ _ _ _ _ _ _ _ _ _ (1) _ qyc (by have qaa:=(unhide HOKR).d.l1;have qba:=(unhide HOKR).d.l2;have qca:=(unhide HOKR).d.l3;simp only at qaa qba qca;have qda:=cntI_le (unhide HOKR).i;have qea:=(unhide HOKR).p;omega) (by have qaa:=(unhide HOKR).d.l1;have qba:=(unhide HOKR).d.l2;have qca:=(unhide HOKR).d.l3;simp only at qaa qba qca;have qda:=cntI_le (unhide HOKR).i;have qea:=(unhide HOKR).p;omega) (by have qaa:=(unhide HOKR).d.l1;have qba:=(unhide HOKR).d.l2;have qca:=(unhide HOKR).d.l3;simp only at qaa qba qca;have qda:=cntI_le (unhide HOKR).i;have qea:=(unhide HOKR).p;omega) (by have qaa:=(unhide HOKR).d.l1;have qba:=(unhide HOKR).d.l2;have qca:=(unhide HOKR).d.l3;simp only at qaa qba qca;have qda:=cntI_le (unhide HOKR).i;have qea:=(unhide HOKR).p;omega) (by have qaa:=(unhide HOKR).d.l1;have qba:=(unhide HOKR).d.l2;have qca:=(unhide HOKR).d.l3;simp only at qaa qba qca;have qda:=cntI_le (unhide HOKR).i;have qea:=(unhide HOKR).p;omega) ((unhide HOKR).more (by omega)).i (by have qaa:=(unhide HOKR).d.l1;have qba:=(unhide HOKR).d.l2;have qca:=(unhide HOKR).d.l3;simp only at qaa qba qca;have qda:=cntI_le (unhide HOKR).i;have qea:=(unhide HOKR).p;omega)).mono ?_
 rintro e w15 ⟨rfl,qga⟩
 clear qma qna qoa qpa qqa qra qsa qta qua qva qwa
 have qdi:=blk_next qbf qga
 have qei:=blk_next qcf qga
 have qfi:=blk_next qdf qga
 have qgi:=blk_next qef qga
 have qhi:=blk_next qxc qga
 have qii:=blk_next qff qga
 have qji:=qgf.below qga
 have qki:=qyc.below qga
 have qli:=qhf.below qga
 have qvg:Below w.heap.size w w15:=qfe.trans (Below.mono qga qug)
 have qti:=qvg.size
 have qui:w14.heap.size≤w15.heap.size:=qga.size
 clear qbf qcf qdf qef qxc qff qgf qyc qhf qfe qug qga
 go_wp2
 go_ret
 exact ⟨rfl,qvg⟩
end Go.Proofs.YtdddglihomchfaaGreat.fnExactDoAct
