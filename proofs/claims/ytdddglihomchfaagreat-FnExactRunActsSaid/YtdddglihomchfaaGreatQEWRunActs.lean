/- The walk of FnExactRunActs, for arguments that are not too large. -/
import Derived.Deep.DeepCutAuto
import Derived.Deep.RegionHeld3
import Derived.Deep.Slices
import Derived.Lib.SmallJoins
import Derived.SliceStrings
import Derived.Test.YtdddglihomchfaaGreatRows
import Derived.Test.YtdddglihomchfaaGreatQEr
import Derived.Test.YtdddglihomchfaaGreatQEm
import Derived.Test.YtdddglihomchfaaGreatQELawRun
import Derived.Test.YtdddglihomchfaaGreatQEb
namespace Go.Proofs.YtdddglihomchfaaGreat.fnExactRunActs
set_option maxHeartbeats 1600000
open Go.ChangeShapes Go.WideShapes Go.ChangeAt Go.RowKit Go.Joins Go.WideMaps Go.WideElems
open Go.ChangeMaps (open_string shut_string)
set_option linter.unusedVariables false
set_option maxRecDepth 100000 in
set_option maxHeartbeats 16000000 in
theorem walkRunActs (d1 f1:Int) (ss1:List ByteArray) (d2 f2:Int) (ss2:List ByteArray) (st:List PStep) (P:List PItem) (pp:List PPaper) (m:Int) (A1 A2 A3 A4 A5:Option Addr) (c1 c2 c3 c4 c5:Nat) (Aa:Option Addr) (ca:Nat) (la:List PAct) (w:World) (hSW:RdWork0 w w.heap.size A1 A2 A3 A4 A5 (PDraft.mk d1 f1 ss1 d2 f2 ss2 st) P pp) (hnW:OkWork (PDraft.mk d1 f1 ss1 d2 f2 ss2 st) P pp 1048576) (hSa:Acts w w.heap.size Aa la.length la) (hna:la.length≤1048576) (hz1:0≤szW (PDraft.mk d1 f1 ss1 d2 f2 ss2 st) P pp (1048576)) (hz2:0≤szActs la (szW (PDraft.mk d1 f1 ss1 d2 f2 ss2 st) P pp (1048576))) :
  Calls Tryz.prog 13 #[.agg #[.int .i64 d1,.int .i64 f1,.slice A1 ss1.length c1,.int .i64 d2,.int .i64 f2,.slice A2 ss2.length c2,.slice A3 st.length c3,.slice A4 P.length c4,.slice A5 pp.length c5,.int .i64 m],.slice Aa la.length ca] w fun e w'=>e=.returned (.bool true)∧Below w.heap.size w w':=by
 have hokW:OkWork (PDraft.mk d1 f1 ss1 d2 f2 ss2 st) P pp 1048576:=hnW
 have hoka:OkL la 1048576:=hna
 have hrok:(OkWork (PDraft.mk ((runRes (PWork.mk (PDraft.mk d1 f1 ss1 d2 f2 ss2 st) P pp m) la).1.D.d1) ((runRes (PWork.mk (PDraft.mk d1 f1 ss1 d2 f2 ss2 st) P pp m) la).1.D.f1) ((runRes (PWork.mk (PDraft.mk d1 f1 ss1 d2 f2 ss2 st) P pp m) la).1.D.ss1) ((runRes (PWork.mk (PDraft.mk d1 f1 ss1 d2 f2 ss2 st) P pp m) la).1.D.d2) ((runRes (PWork.mk (PDraft.mk d1 f1 ss1 d2 f2 ss2 st) P pp m) la).1.D.f2) ((runRes (PWork.mk (PDraft.mk d1 f1 ss1 d2 f2 ss2 st) P pp m) la).1.D.ss2) ((runRes (PWork.mk (PDraft.mk d1 f1 ss1 d2 f2 ss2 st) P pp m) la).1.D.st)) ((runRes (PWork.mk (PDraft.mk d1 f1 ss1 d2 f2 ss2 st) P pp m) la).1.P) ((runRes (PWork.mk (PDraft.mk d1 f1 ss1 d2 f2 ss2 st) P pp m) la).1.pp) 1048576)∧(runRes (PWork.mk (PDraft.mk d1 f1 ss1 d2 f2 ss2 st) P pp m) la).2.length≤1048576:=by
  exact ⟨runRes_ok (PWork.mk (PDraft.mk d1 f1 ss1 d2 f2 ss2 st) P pp m) la hokW,by have:=runRes_len (PWork.mk (PDraft.mk d1 f1 ss1 d2 f2 ss2 st) P pp m) la;omega⟩
 have hspec:=fun (W:World) (A1_0W:Option Addr) (c1_0W:Nat) (A2_0W:Option Addr) (c2_0W:Nat) (A3_0W:Option Addr) (c3_0W:Nat) (A4_0W:Option Addr) (c4_0W:Nat) (A5_0W:Option Addr) (c5_0W:Nat) (h_0W:RdWork W W.heap.size A1_0W A2_0W A3_0W A4_0W c4_0W A5_0W (PDraft.mk d1 f1 ss1 d2 f2 ss2 st) P pp) (A_0a:Option Addr) (c_0a:Nat) (h_0a:Acts W W.heap.size A_0a la.length la)=>s_RunActs d1 f1 ss1 d2 f2 ss2 st P pp m la W.heap.size A1_0W A2_0W A3_0W A4_0W A5_0W c1_0W c2_0W c3_0W c4_0W c5_0W A_0a c_0a W h_0W h_0a (Nat.le_refl _) hokW
 have himpl:=fun (W:World) (A1_0W:Option Addr) (c1_0W:Nat) (A2_0W:Option Addr) (c2_0W:Nat) (A3_0W:Option Addr) (c3_0W:Nat) (A4_0W:Option Addr) (c4_0W:Nat) (A5_0W:Option Addr) (c5_0W:Nat) (h_0W:RdWork W W.heap.size A1_0W A2_0W A3_0W A4_0W c4_0W A5_0W (PDraft.mk d1 f1 ss1 d2 f2 ss2 st) P pp) (A_0a:Option Addr) (c_0a:Nat) (h_0a:Acts W W.heap.size A_0a la.length la)=>i_RunActs d1 f1 ss1 d2 f2 ss2 st P pp m la W.heap.size A1_0W A2_0W A3_0W A4_0W A5_0W c1_0W c2_0W c3_0W c4_0W c5_0W A_0a c_0a W h_0W h_0a (Nat.le_refl _) hokW
 generalize hgen0:((runRes (PWork.mk (PDraft.mk d1 f1 ss1 d2 f2 ss2 st) P pp m) la).1.D.d1)=d1r at hspec himpl hrok
 generalize hgen1:((runRes (PWork.mk (PDraft.mk d1 f1 ss1 d2 f2 ss2 st) P pp m) la).1.D.f1)=f1r at hspec himpl hrok
 generalize hgen2:((runRes (PWork.mk (PDraft.mk d1 f1 ss1 d2 f2 ss2 st) P pp m) la).1.D.ss1)=ss1r at hspec himpl hrok
 generalize hgen3:((runRes (PWork.mk (PDraft.mk d1 f1 ss1 d2 f2 ss2 st) P pp m) la).1.D.d2)=d2r at hspec himpl hrok
 generalize hgen4:((runRes (PWork.mk (PDraft.mk d1 f1 ss1 d2 f2 ss2 st) P pp m) la).1.D.f2)=f2r at hspec himpl hrok
 generalize hgen5:((runRes (PWork.mk (PDraft.mk d1 f1 ss1 d2 f2 ss2 st) P pp m) la).1.D.ss2)=ss2r at hspec himpl hrok
 generalize hgen6:((runRes (PWork.mk (PDraft.mk d1 f1 ss1 d2 f2 ss2 st) P pp m) la).1.D.st)=str at hspec himpl hrok
 generalize hgen7:((runRes (PWork.mk (PDraft.mk d1 f1 ss1 d2 f2 ss2 st) P pp m) la).1.P)=Pr at hspec himpl hrok
 generalize hgen8:((runRes (PWork.mk (PDraft.mk d1 f1 ss1 d2 f2 ss2 st) P pp m) la).1.pp)=ppr at hspec himpl hrok
 generalize hgen9:((runRes (PWork.mk (PDraft.mk d1 f1 ss1 d2 f2 ss2 st) P pp m) la).1.m)=mr at hspec himpl hrok
 generalize hgen10:((runRes (PWork.mk (PDraft.mk d1 f1 ss1 d2 f2 ss2 st) P pp m) la).2)=xsr at hspec himpl hrok
 clear hgen0 hgen1 hgen2 hgen3 hgen4 hgen5 hgen6 hgen7 hgen8 hgen9 hgen10
 have HSPEC:=hide hspec
 have HIMPL:=hide himpl
 clear hspec himpl
 have HOKW:=hide hokW
 clear hokW
 have HOKa:=hide hoka
 clear hoka
 have HOKR:=hide hrok
 clear hrok
 have HOKRW:=hide (unhide HOKR).1
 have HOKRN:=hide (show OkL xsr 1048576 from (unhide HOKR).2)
 go_enter Tryz.func13,Tryz.ntmps13
 go_wp2_with fail
 generalize e_:(World.alloc _ _)=w1
 symm at e_
 have qcn:=hkq e_ (bnk w.heap.size)
 have qif:Below w.heap.size w w1:=by rw [e_];exact bel
 have qdn:=qif.size
 have qnq:w.heap.size+1≤w1.heap.size:=(by rw [e_];simp;try omega)
 clear e_
 refine (l_szWorkshop d1 f1 ss1 d2 f2 ss2 st P pp m w.heap.size A1 A2 A3 A4 A5 c1 c2 c3 c4 c5 (1048576) _ qdn (hSW.raw.below qif) (by omega) (by omega)).mono ?_
 rintro e w2 ⟨rfl,qym⟩
 have qen:=blk_next qcn qym
 have qfn:Below w.heap.size w w2:=qif.trans (Below.mono qym qdn)
 have qno:=qfn.size
 have qoq:w1.heap.size≤w2.heap.size:=qym.size
 clear qcn qif qdn qym
 have qpq:szW (PDraft.mk d1 f1 ss1 d2 f2 ss2 st) P pp (1048576)≤1048576:=szW_ub _ _ _ _ (by omega)
 go_wp2_with fail
 refine (l_szActS la Aa ca (szW (PDraft.mk d1 f1 ss1 d2 f2 ss2 st) P pp (1048576)) _ (by omega) (by omega) (by omega)).mono ?_
 rintro e w3 ⟨rfl,qzm⟩
 have qze:=blk_next qen qzm
 have qjf:Below w.heap.size w w3:=qfn.trans (Below.mono qzm qno)
 have qgn:=qjf.size
 have qqq:w2.heap.size≤w3.heap.size:=qzm.size
 clear qen qfn qno qzm
 have qrq:szActs la (szW (PDraft.mk d1 f1 ss1 d2 f2 ss2 st) P pp (1048576))≤1048576:=szActs_ub _ _ (by omega)
 obtain ⟨qia,qja,qka,qla,qma,qna,qoa,qpa,qqa,qra,qsa⟩:=blk10 qze
 go_wp2_with fail
 refine (u_toWorkshop d1 f1 ss1 d2 f2 ss2 st P pp m w.heap.size A1 A2 A3 A4 A5 c1 c2 c3 c4 c5 _ (hSW.below qjf) qgn).mono ?_
 rintro e w4 ⟨A1_t1_0,c1_t1_0,A2_t1_0,c2_t1_0,A3_t1_0,c3_t1_0,A4_t1_0,c4_t1_0,A5_t1_0,c5_t1_0,rfl,hon,qan⟩
 clear qia qja qka qla qma qna qoa qpa qqa qra qsa
 have qaf:=blk_next qze qan
 have qkf:Below w.heap.size w w4:=qjf.trans (Below.mono qan qgn)
 have qhn:=qkf.size
 have qsq:w3.heap.size≤w4.heap.size:=qan.size
 clear qze qjf qgn qan
 have qlf:=hon
 clear hon
 obtain ⟨qia,qja,qka,qla,qma,qna,qoa,qpa,qqa,qra,qsa⟩:=blk10 qaf
 go_wp2_with fail
 refine (u_toActS la w.heap.size Aa ca _ (hSa.below qkf) qhn).mono ?_
 rintro e w5 ⟨A_t1_1,c_t1_1,rfl,hon,qmf⟩
 clear qia qja qka qla qma qna qoa qpa qqa qra qsa
 have qbf:=blk_next qaf qmf
 have qnf:=qlf.below qmf
 have qin:Below w.heap.size w w5:=qkf.trans (Below.mono qmf qhn)
 have qoo:=qin.size
 have qtq:w4.heap.size≤w5.heap.size:=qmf.size
 clear qaf qlf qkf qhn qmf
 have qof:=hon
 clear hon
 obtain ⟨qia,qja,qka,qla,qma,qna,qoa,qpa,qqa,qra,qsa⟩:=blk10 qbf
 go_wp2_with fail
 refine (unhide HSPEC _ _ _ _ _ _ _ _ _ _ _ (qnf.rd ((unhide HOKW).more (by omega))) _ _ (qof.rd ((unhide HOKa).more (by omega)))).mono ?_
 rintro e w6 ⟨A1_w0,c1_w0,A2_w0,c2_w0,A3_w0,c3_w0,A4_w0,c4_w0,A5_w0,c5_w0,A6_w0,c6_w0,rfl,hon,qbn⟩
 clear qnf
 clear qof
 clear qia qja qka qla qma qna qoa qpa qqa qra qsa
 have qcf:=blk_next qbf qbn
 have qpo:Below w.heap.size w w6:=qin.trans (Below.mono qbn qoo)
 have qzo:=qpo.size
 have quq:w5.heap.size≤w6.heap.size:=qbn.size
 clear qbf qin qoo qbn
 obtain ⟨l1_w0,h1_w0,l2_w0,h2_w0,hr_w0,hd_w0,hon1,hon2⟩:=hon.all
 have qjn:=hon1
 clear hon1
 have qkn:=hon2
 clear hon2
 obtain ⟨qia,qja,qka,qla,qma,qna,qoa,qpa,qqa,qra,qsa⟩:=blk10 qcf
 go_wp2_with fail
 clear qia qja qka qla qma qna qoa qpa qqa qra qsa
 generalize e_:(World.alloc _ _)=w7
 symm at e_
 have qln:=hkq e_ (blk_alloc qcf _)
 have qmn:=hkq e_ (bnk w6.heap.size)
 have qdf:=(qjn.alloc (.cells #[.int .i64 d1r,.int .i64 f1r,.slice A1_w0 ss1r.length c1_w0,.int .i64 d2r,.int .i64 f2r,.slice A2_w0 ss2r.length c2_w0,.slice A3_w0 str.length c3_w0,.slice A4_w0 Pr.length c4_w0,.slice A5_w0 ppr.length c5_w0,.int .i64 mr] 41))
 rw [← e_] at qdf
 have qef:=(qkn.alloc (.cells #[.int .i64 d1r,.int .i64 f1r,.slice A1_w0 ss1r.length c1_w0,.int .i64 d2r,.int .i64 f2r,.slice A2_w0 ss2r.length c2_w0,.slice A3_w0 str.length c3_w0,.slice A4_w0 Pr.length c4_w0,.slice A5_w0 ppr.length c5_w0,.int .i64 mr] 41))
 rw [← e_] at qef
 have qpf:Below w.heap.size w w7:=by rw [e_];exact bel
 have qnn:=qpf.size
 have qvq:w6.heap.size+1≤w7.heap.size:=(by rw [e_];simp;try omega)
 clear e_
 clear qcf qjn qkn qpo qzo
 refine (u_toWorkshop d1 f1 ss1 d2 f2 ss2 st P pp m w.heap.size A1 A2 A3 A4 A5 c1 c2 c3 c4 c5 _ (hSW.below qpf) qnn).mono ?_
 rintro e w8 ⟨A1_x0,c1_x0,A2_x0,c2_x0,A3_x0,c3_x0,A4_x0,c4_x0,A5_x0,c5_x0,rfl,hon,qic⟩
 have qon:=blk_next qln qic
 have qpn:=blk_next qmn qic
 have qqn:=qdf.below qic
 have qrn:=qef.below qic
 have qqo:Below w.heap.size w w8:=qpf.trans (Below.mono qic qnn)
 have qap:=qqo.size
 have qwq:w7.heap.size≤w8.heap.size:=qic.size
 clear qln qmn qdf qef qpf qnn qic
 have qsn:=hon
 clear hon
 go_wp2_with fail
 generalize e_:(World.alloc _ _)=w9
 symm at e_
 have qtn:=hkq e_ (blk_alloc qon _)
 have qun:=hkq e_ (blk_alloc qpn _)
 have qvn:=hkq e_ (bnk w8.heap.size)
 have qff:=(qqn.alloc (.cells #[.int .i64 d1,.int .i64 f1,.slice A1_x0 ss1.length c1_x0,.int .i64 d2,.int .i64 f2,.slice A2_x0 ss2.length c2_x0,.slice A3_x0 st.length c3_x0,.slice A4_x0 P.length c4_x0,.slice A5_x0 pp.length c5_x0,.int .i64 m] 41))
 rw [← e_] at qff
 have qgf:=(qrn.alloc (.cells #[.int .i64 d1,.int .i64 f1,.slice A1_x0 ss1.length c1_x0,.int .i64 d2,.int .i64 f2,.slice A2_x0 ss2.length c2_x0,.slice A3_x0 st.length c3_x0,.slice A4_x0 P.length c4_x0,.slice A5_x0 pp.length c5_x0,.int .i64 m] 41))
 rw [← e_] at qgf
 have qhf:=(qsn.alloc (.cells #[.int .i64 d1,.int .i64 f1,.slice A1_x0 ss1.length c1_x0,.int .i64 d2,.int .i64 f2,.slice A2_x0 ss2.length c2_x0,.slice A3_x0 st.length c3_x0,.slice A4_x0 P.length c4_x0,.slice A5_x0 pp.length c5_x0,.int .i64 m] 41))
 rw [← e_] at qhf
 have qqf:Below w.heap.size w w9:=by rw [e_];exact bel
 have qwn:=qqf.size
 have qxq:w8.heap.size+1≤w9.heap.size:=(by rw [e_];simp;try omega)
 clear e_
 clear qon qpn qqn qrn qsn qqo qap
 refine (u_toActS la w.heap.size Aa ca _ (hSa.below qqf) qwn).mono ?_
 rintro e w10 ⟨A_x1,c_x1,rfl,hon,qob⟩
 have qmg:=blk_next qtn qob
 have qng:=blk_next qun qob
 have qjc:=blk_next qvn qob
 have qog:=qff.below qob
 have qpg:=qgf.below qob
 have qkc:=qhf.below qob
 have qsf:Below w.heap.size w w10:=qqf.trans (Below.mono qob qwn)
 have qxn:=qsf.size
 have qop:w9.heap.size≤w10.heap.size:=qob.size
 clear qtn qun qvn qff qgf qhf qqf qwn qob
 have qlc:=hon
 clear hon
 obtain ⟨qmc,qnc,qoc,qpc,qqc,qrc,qsc,qtc,quc,qvc,qwc⟩:=blk10 qjc
 go_wp2_with fail
 refine (unhide HIMPL _ _ _ _ _ _ _ _ _ _ _ (qkc.rd ((unhide HOKW).more (by omega))) _ _ (qlc.rd ((unhide HOKa).more (by omega)))).mono ?_
 rintro e w11 ⟨A1_g0,c1_g0,A2_g0,c2_g0,A3_g0,c3_g0,A4_g0,c4_g0,A5_g0,c5_g0,A6_g0,c6_g0,rfl,hon,qkb⟩
 clear qmc qnc qoc qpc qqc qrc qsc qtc quc qvc qwc
 have qqg:=blk_next qmg qkb
 have qxc:=blk_next qng qkb
 have qrg:=blk_next qjc qkb
 have qsg:=qog.below qkb
 have qtg:=qpg.below qkb
 have qug:=qkc.below qkb
 have qvg:=qlc.below qkb
 have qyn:Below w.heap.size w w11:=qsf.trans (Below.mono qkb qxn)
 have qto:=qyn.size
 have qpp:w10.heap.size≤w11.heap.size:=qkb.size
 clear qmg qng qjc qog qpg qkc qlc qsf qxn qkb
 obtain ⟨l1_g0,h1_g0,l2_g0,h2_g0,hr_g0,hd_g0,hon1,hon2⟩:=hon.all
 have qwg:=hon1
 clear hon1
 have qxg:=hon2
 clear hon2
 obtain ⟨qyc,qzc,qad,qbd,qcd,qdd,qed,qfd,qgd,qhd,qid⟩:=blk10 qxc
 go_wp2_with fail
 clear qyc qzc qad qbd qcd qdd qed qfd qgd qhd qid
 generalize e_:(World.alloc _ _)=w12
 symm at e_
 have qyg:=hkq e_ (blk_alloc qqg _)
 have qzg:=hkq e_ (blk_alloc qxc _)
 have qah:=hkq e_ (blk_alloc qrg _)
 have qbh:=hkq e_ (bnk w11.heap.size)
 have qdc:=(qsg.alloc (.cells #[.int .i64 d1r,.int .i64 f1r,.slice A1_g0 ss1r.length c1_g0,.int .i64 d2r,.int .i64 f2r,.slice A2_g0 ss2r.length c2_g0,.slice A3_g0 str.length c3_g0,.slice A4_g0 Pr.length c4_g0,.slice A5_g0 ppr.length c5_g0,.int .i64 mr] 41))
 rw [← e_] at qdc
 have qjd:=(qtg.alloc (.cells #[.int .i64 d1r,.int .i64 f1r,.slice A1_g0 ss1r.length c1_g0,.int .i64 d2r,.int .i64 f2r,.slice A2_g0 ss2r.length c2_g0,.slice A3_g0 str.length c3_g0,.slice A4_g0 Pr.length c4_g0,.slice A5_g0 ppr.length c5_g0,.int .i64 mr] 41))
 rw [← e_] at qjd
 have qkd:=(qug.alloc (.cells #[.int .i64 d1r,.int .i64 f1r,.slice A1_g0 ss1r.length c1_g0,.int .i64 d2r,.int .i64 f2r,.slice A2_g0 ss2r.length c2_g0,.slice A3_g0 str.length c3_g0,.slice A4_g0 Pr.length c4_g0,.slice A5_g0 ppr.length c5_g0,.int .i64 mr] 41))
 rw [← e_] at qkd
 have qld:=(qvg.alloc (.cells #[.int .i64 d1r,.int .i64 f1r,.slice A1_g0 ss1r.length c1_g0,.int .i64 d2r,.int .i64 f2r,.slice A2_g0 ss2r.length c2_g0,.slice A3_g0 str.length c3_g0,.slice A4_g0 Pr.length c4_g0,.slice A5_g0 ppr.length c5_g0,.int .i64 mr] 41))
 rw [← e_] at qld
 have qec:=(qwg.alloc (.cells #[.int .i64 d1r,.int .i64 f1r,.slice A1_g0 ss1r.length c1_g0,.int .i64 d2r,.int .i64 f2r,.slice A2_g0 ss2r.length c2_g0,.slice A3_g0 str.length c3_g0,.slice A4_g0 Pr.length c4_g0,.slice A5_g0 ppr.length c5_g0,.int .i64 mr] 41))
 rw [← e_] at qec
 have qmd:=(qxg.alloc (.cells #[.int .i64 d1r,.int .i64 f1r,.slice A1_g0 ss1r.length c1_g0,.int .i64 d2r,.int .i64 f2r,.slice A2_g0 ss2r.length c2_g0,.slice A3_g0 str.length c3_g0,.slice A4_g0 Pr.length c4_g0,.slice A5_g0 ppr.length c5_g0,.int .i64 mr] 41))
 rw [← e_] at qmd
 have qtf:Below w.heap.size w w12:=by rw [e_];exact bel
 have qzn:=qtf.size
 have qqp:w11.heap.size+1≤w12.heap.size:=(by rw [e_];simp;try omega)
 clear e_
 clear qqg qxc qrg qsg qtg qug qvg qwg qxg qyn qto
 refine (u_eqWorkshop d1r f1r ss1r d2r f2r ss2r str Pr ppr mr _ _ _ _ _ _ _ _ _ _ _ _ _ _ _ _ _ _ _ _ _ _ _ _ _ qec qdc ((unhide HOKRW).more (by omega))).mono ?_
 rintro e w13 ⟨rfl,qxa⟩
 have qch:=blk_next qyg qxa
 have qdh:=blk_next qzg qxa
 have qeh:=blk_next qah qxa
 have qfh:=blk_next qbh qxa
 have qgh:=qdc.below qxa
 have qnd:=qjd.below qxa
 have qhh:=qkd.below qxa
 have qih:=qld.below qxa
 have qjh:=qec.below qxa
 have qod:=qmd.below qxa
 have quf:Below w.heap.size w w13:=qtf.trans (Below.mono qxa qzn)
 have qao:=quf.size
 have qrp:w12.heap.size≤w13.heap.size:=qxa.size
 clear qyg qzg qah qbh qdc qjd qkd qld qec qmd qtf qzn qxa
 go_wp2_with fail
 refine (u_eqIntS xsr _ _ _ _ _ _ _ _ _ qod qnd ((unhide HOKRN).more (by omega))).mono ?_
 rintro e w14 ⟨rfl,qya⟩
 have qpd:=blk_next qch qya
 have qkh:=blk_next qdh qya
 have qqd:=blk_next qeh qya
 have qlh:=blk_next qfh qya
 have qmh:=qgh.below qya
 have qnh:=qnd.below qya
 have qfc:=qhh.below qya
 have qoh:=qih.below qya
 have qph:=qjh.below qya
 have qqh:=qod.below qya
 have qre:Below w.heap.size w w14:=quf.trans (Below.mono qya qao)
 have qse:=qre.size
 have qsp:w13.heap.size≤w14.heap.size:=qya.size
 clear qch qdh qeh qfh qgh qnd qhh qih qjh qod quf qao qya
 obtain ⟨qia,qja,qka,qla,qma,qna,qoa,qpa,qqa,qra,qsa⟩:=blk10 qpd
 obtain ⟨qmc,qnc,qoc,qpc,qqc,qrc,qsc,qtc,quc,qvc,qwc⟩:=blk10 qqd
 go_wp2_with fail
 have hS_c:=hSW.below qre
 go_region_held3 (fun W=>(∀ b o,b<w14.heap.size→W.cell? ⟨b,o,none⟩=(w14).cell? ⟨b,o,none⟩)∧(∀ b o,b<w14.heap.size→W.frozen? ⟨b,o,none⟩=(w14).frozen? ⟨b,o,none⟩)∧Below (w14.heap.size) (w14) W) (exact keep_of bel) (first|(go_at_call 17;have hq:=(‹_∧_∧Below _ _ _›).2.2;refine (u_toWorkshop d1 f1 ss1 d2 f2 ss2 st P pp m w.heap.size A1 A2 A3 A4 A5 c1 c2 c3 c4 c5 _ ?_ ?_).mono ?_;exact hS_c.below (hq.mono qse);exact Nat.le_trans qse hq.size;rintro e wa_w15 ⟨A1_aw15,c1_aw15,A2_aw15,c2_aw15,A3_aw15,c3_aw15,A4_aw15,c4_aw15,A5_aw15,c5_aw15,rfl,hoa,hba⟩)|(go_at_call 19;have hq2:=(‹_∧_∧Below _ _ _›).2.2;(first|refine (u_eqWorkshop d1 f1 ss1 d2 f2 ss2 st P pp m _ _ _ _ _ _ _ _ _ _ _ _ _ _ _ _ _ _ _ _ _ _ _ _ _ (qfc.below hq2) hoa ((unhide HOKW).more (by omega))).mono ?_|refine (u_eqWorkshop d1 f1 ss1 d2 f2 ss2 st P pp m _ _ _ _ _ _ _ _ _ _ _ _ _ _ _ _ _ _ _ _ _ _ _ _ _ (qfc.below hq2) hoa.drew ((unhide HOKW).more (by omega))).mono ?_);rintro e w15 ⟨rfl,hbz⟩))
 have hb67:Below w14.heap.size w14 wa_w15:=(Below.refl _ _).drew.trans hba
 have hz7:w14.heap.size≤wa_w15.heap.size:=hba.size
 have hb68:Below w14.heap.size w14 w15:=hb67.trans (hbz.mono hz7)
 clear hS_c hoa hba hbz hb67 hz7
 clear qia qja qka qla qma qna qoa qpa qqa qra qsa qmc qnc qoc qpc qqc qrc qsc qtc quc qvc qwc
 have qrh:=blk_next qpd hb68
 have qsh:=blk_next qkh hb68
 have qth:=blk_next qqd hb68
 have quh:=blk_next qlh hb68
 have qvh:=qmh.below hb68
 have qwh:=qnh.below hb68
 have qxh:=qfc.below hb68
 have qyh:=qoh.below hb68
 have qzh:=qph.below hb68
 have qai:=qqh.below hb68
 have qte:Below w.heap.size w w15:=qre.trans (Below.mono hb68 qse)
 have qvf:=qte.size
 have qtp:w14.heap.size≤w15.heap.size:=hb68.size
 clear qpd qkh qqd qlh qmh qnh qfc qoh qph qqh qre qse hb68
 go_wp2_with fail
 refine (u_toActS la w.heap.size Aa ca _ (hSa.below qte) qvf).mono ?_
 rintro e w16 ⟨A_a16,c_a16,rfl,hon,qza⟩
 have qbi:=blk_next qrh qza
 have qci:=blk_next qsh qza
 have qdi:=blk_next qth qza
 have qei:=blk_next quh qza
 have qfi:=qvh.below qza
 have qgi:=qwh.below qza
 have qhi:=qxh.below qza
 have qrd:=qyh.below qza
 have qii:=qzh.below qza
 have qji:=qai.below qza
 have qwf:Below w.heap.size w w16:=qte.trans (Below.mono qza qvf)
 have qbo:=qwf.size
 have qup:w15.heap.size≤w16.heap.size:=qza.size
 clear qrh qsh qth quh qvh qwh qxh qyh qzh qai qte qvf qza
 have qrf:=hon
 clear hon
 go_wp2_with fail
 refine (u_eqActS la _ _ _ _ _ _ _ _ _ qrd qrf ((unhide HOKa).more (by omega))).mono ?_
 rintro e w17 ⟨rfl,qab⟩
 clear qrf
 have qki:=blk_next qbi qab
 have qli:=blk_next qci qab
 have qsd:=blk_next qdi qab
 have qmi:=blk_next qei qab
 have qni:=qfi.below qab
 have qoi:=qgi.below qab
 have qpi:=qhi.below qab
 have qqi:=qrd.below qab
 have qri:=qii.below qab
 have qsi:=qji.below qab
 have qxf:Below w.heap.size w w17:=qwf.trans (Below.mono qab qbo)
 have quo:=qxf.size
 have qvp:w16.heap.size≤w17.heap.size:=qab.size
 clear qbi qci qdi qei qfi qgi qhi qrd qii qji qwf qbo qab
 obtain ⟨qmc,qnc,qoc,qpc,qqc,qrc,qsc,qtc,quc,qvc,qwc⟩:=blk10 qsd
 go_wp2_with fail
 refine (u_markWorkshop d1 f1 ss1 d2 f2 ss2 st P pp m _ _ _ _ _ _ _ _ _ _ _ _ (1) _ qpi (by have qfa:=(unhide HOKW).d.l1;have qga:=(unhide HOKW).d.l2;have qha:=(unhide HOKW).d.l3;simp only at qfa qga qha;have qmb:=cntI_le (unhide HOKW).i;have qnb:=(unhide HOKW).p;omega) (by have qfa:=(unhide HOKW).d.l1;have qga:=(unhide HOKW).d.l2;have qha:=(unhide HOKW).d.l3;simp only at qfa qga qha;have qmb:=cntI_le (unhide HOKW).i;have qnb:=(unhide HOKW).p;omega) ((unhide HOKW).more (by omega))).mono ?_
 rintro e w18 ⟨rfl,qbp,qbb⟩
 clear qbp
 clear qmc qnc qoc qpc qqc qrc qsc qtc quc qvc qwc
 have qti:=qbb.box qki
 have qui:=qbb.box qli
 have qvi:=qbb.box qsd
 have qwi:=qbb.box qmi
 have qxi:=qni.within qbb (by omega)
 have qyi:=qoi.within qbb (by omega)
 have qzi:=qqi.within qbb (by omega)
 have qaj:=qri.within qbb (by omega)
 have qbj:=qsi.within qbb (by omega)
 have qyf:Below w.heap.size w w18:=qxf.trans (qbb.below (by omega) (by omega))
 have qvo:=qyf.size
 have qwp:w17.heap.size≤w18.heap.size:=qbb.size
 clear qki qli qsd qmi qni qoi qpi qqi qri qsi qxf quo qbb
 go_wp2_with fail
 refine (u_markActS la _ _ _ _ (1+(ss1.length:Int)+(ss2.length:Int)+7 * (st.length:Int)+(cntI P:Int)+3 * (pp.length:Int)) _ qzi (by have qfa:=(unhide HOKW).d.l1;have qga:=(unhide HOKW).d.l2;have qha:=(unhide HOKW).d.l3;simp only at qfa qga qha;have qmb:=cntI_le (unhide HOKW).i;have qnb:=(unhide HOKW).p;have qrb:la.length≤1048576:=unhide HOKa;omega) (by have qfa:=(unhide HOKW).d.l1;have qga:=(unhide HOKW).d.l2;have qha:=(unhide HOKW).d.l3;simp only at qfa qga qha;have qmb:=cntI_le (unhide HOKW).i;have qnb:=(unhide HOKW).p;have qrb:la.length≤1048576:=unhide HOKa;omega) ((unhide HOKa).more (by omega))).mono ?_
 rintro e w19 ⟨rfl,qcp,qdb⟩
 clear qcp
 have qcj:=qdb.box qti
 have qtd:=qdb.box qui
 have qdj:=qdb.box qvi
 have qud:=qdb.box qwi
 have qvd:=qxi.within qdb (by omega)
 have qej:=qyi.within qdb (by omega)
 have qwd:=qaj.within qdb (by omega)
 have qfj:=qbj.within qdb (by omega)
 have qzf:Below w.heap.size w w19:=qyf.trans (qdb.below (by omega) (by omega))
 have qco:=qzf.size
 have qxp:w18.heap.size≤w19.heap.size:=qdb.size
 clear qti qui qvi qwi qxi qyi qzi qaj qbj qyf qvo qdb
 obtain ⟨qyc,qzc,qad,qbd,qcd,qdd,qed,qfd,qgd,qhd,qid⟩:=blk10 qtd
 obtain ⟨qsb,qtb,qub,qvb,qwb,qxb,qyb,qzb,qac,qbc,qcc⟩:=blk10 qud
 go_wp2_with fail
 refine (u_eqWorkshop d1r f1r ss1r d2r f2r ss2r str Pr ppr mr _ _ _ _ _ _ _ _ _ _ _ _ _ _ _ _ _ _ _ _ _ _ _ _ _ qwd qvd ((unhide HOKRW).more (by omega))).mono ?_
 rintro e w20 ⟨rfl,qeb⟩
 clear qyc qzc qad qbd qcd qdd qed qfd qgd qhd qid qsb qtb qub qvb qwb qxb qyb qzb qac qbc qcc
 have qgj:=blk_next qcj qeb
 have qhj:=blk_next qtd qeb
 have qij:=blk_next qdj qeb
 have qjj:=blk_next qud qeb
 have qkj:=qvd.below qeb
 have qxd:=qej.below qeb
 have qlj:=qwd.below qeb
 have qyd:=qfj.below qeb
 have qag:Below w.heap.size w w20:=qzf.trans (Below.mono qeb qco)
 have qdo:=qag.size
 have qyp:w19.heap.size≤w20.heap.size:=qeb.size
 clear qcj qtd qdj qud qvd qej qwd qfj qzf qco qeb
 go_wp2_with fail
 refine (u_eqIntS xsr _ _ _ _ _ _ _ _ _ qyd qxd ((unhide HOKRN).more (by omega))).mono ?_
 rintro e w21 ⟨rfl,qfb⟩
 have qmj:=blk_next qgj qfb
 have qnj:=blk_next qhj qfb
 have qoj:=blk_next qij qfb
 have qzd:=blk_next qjj qfb
 have qpj:=qkj.below qfb
 have qqj:=qxd.below qfb
 have qrj:=qlj.below qfb
 have qsj:=qyd.below qfb
 have qbg:Below w.heap.size w w21:=qag.trans (Below.mono qfb qdo)
 have qwo:=qbg.size
 have qzp:w20.heap.size≤w21.heap.size:=qfb.size
 clear qgj qhj qij qjj qkj qxd qlj qyd qag qdo qfb
 obtain ⟨qsb,qtb,qub,qvb,qwb,qxb,qyb,qzb,qac,qbc,qcc⟩:=blk10 qzd
 go_wp2_with fail
 refine (u_markWorkshop d1r f1r ss1r d2r f2r ss2r str Pr ppr mr _ _ _ _ _ _ _ _ _ _ _ _ (1) _ qrj (by have qfa:=(unhide HOKW).d.l1;have qga:=(unhide HOKW).d.l2;have qha:=(unhide HOKW).d.l3;simp only at qfa qga qha;have qmb:=cntI_le (unhide HOKW).i;have qnb:=(unhide HOKW).p;have qrb:la.length≤1048576:=unhide HOKa;have qaa:=(unhide HOKRW).d.l1;have qba:=(unhide HOKRW).d.l2;have qca:=(unhide HOKRW).d.l3;simp only at qaa qba qca;have qda:=cntI_le (unhide HOKRW).i;have qea:=(unhide HOKRW).p;omega) (by have qfa:=(unhide HOKW).d.l1;have qga:=(unhide HOKW).d.l2;have qha:=(unhide HOKW).d.l3;simp only at qfa qga qha;have qmb:=cntI_le (unhide HOKW).i;have qnb:=(unhide HOKW).p;have qrb:la.length≤1048576:=unhide HOKa;have qaa:=(unhide HOKRW).d.l1;have qba:=(unhide HOKRW).d.l2;have qca:=(unhide HOKRW).d.l3;simp only at qaa qba qca;have qda:=cntI_le (unhide HOKRW).i;have qea:=(unhide HOKRW).p;omega) ((unhide HOKRW).more (by omega))).mono ?_
 rintro e w22 ⟨rfl,qro,qlb⟩
 clear qsb qtb qub qvb qwb qxb qyb qzb qac qbc qcc
 have qtj:=qlb.box qmj
 have quj:=qlb.box qnj
 have qvj:=qlb.box qoj
 have qwj:=qlb.box qzd
 have qxj:=qpj.within qlb (by omega)
 have qyj:=qqj.within qlb (by omega)
 have qae:=qsj.within qlb (by omega)
 have qcg:Below w.heap.size w w22:=qbg.trans (qlb.below (by omega) (by omega))
 have qxo:=qcg.size
 have qaq:w21.heap.size≤w22.heap.size:=qlb.size
 clear qmj qnj qoj qzd qpj qqj qrj qsj qbg qwo qlb
 have qzj:=qro
 clear qro
 go_wp2_with fail
 refine (u_markIntSg xsr _ _ _ _ (1+(ss1r.length:Int)+(ss2r.length:Int)+7 * (str.length:Int)+(cntI Pr:Int)+3 * (ppr.length:Int)) _ qae (by have qfa:=(unhide HOKW).d.l1;have qga:=(unhide HOKW).d.l2;have qha:=(unhide HOKW).d.l3;simp only at qfa qga qha;have qmb:=cntI_le (unhide HOKW).i;have qnb:=(unhide HOKW).p;have qrb:la.length≤1048576:=unhide HOKa;have qaa:=(unhide HOKRW).d.l1;have qba:=(unhide HOKRW).d.l2;have qca:=(unhide HOKRW).d.l3;simp only at qaa qba qca;have qda:=cntI_le (unhide HOKRW).i;have qea:=(unhide HOKRW).p;have qqb:xsr.length≤1048576:=unhide HOKRN;omega) (by have qfa:=(unhide HOKW).d.l1;have qga:=(unhide HOKW).d.l2;have qha:=(unhide HOKW).d.l3;simp only at qfa qga qha;have qmb:=cntI_le (unhide HOKW).i;have qnb:=(unhide HOKW).p;have qrb:la.length≤1048576:=unhide HOKa;have qaa:=(unhide HOKRW).d.l1;have qba:=(unhide HOKRW).d.l2;have qca:=(unhide HOKRW).d.l3;simp only at qaa qba qca;have qda:=cntI_le (unhide HOKRW).i;have qea:=(unhide HOKRW).p;have qqb:xsr.length≤1048576:=unhide HOKRN;omega) ((unhide HOKRN).more (by omega))).mono ?_
 rintro e w23 ⟨rfl,qso,qpb,hG_w23⟩
 have qak:=qpb.box qtj
 have qbk:=qpb.box quj
 have qck:=qpb.box qvj
 have qbe:=qpb.box qwj
 have qdk:=qxj.within qpb (by omega)
 have qek:=qyj.within qpb (by omega)
 have qce:=qzj.grownN qae.row hG_w23
 have qdg:Below w.heap.size w w23:=qcg.trans (qpb.below (by omega) (by omega))
 have qeo:=qdg.size
 have qbq:w22.heap.size≤w23.heap.size:=qpb.size
 clear qtj quj qvj qwj qxj qyj qae qzj qcg qxo qpb
 have qfk:=qso
 clear qso
 obtain ⟨qsb,qtb,qub,qvb,qwb,qxb,qyb,qzb,qac,qbc,qcc⟩:=blk10 qbe
 go_wp2_with fail
 refine (u_heldWorkshop d1r f1r d2r f2r mr Pr _ _ _ _ _ _ _ _ _ _ _ _ _ _ _ _ (1) _ qce (by have qaa:=(unhide HOKRW).d.l1;have qba:=(unhide HOKRW).d.l2;have qca:=(unhide HOKRW).d.l3;simp only at qaa qba qca;have qda:=cntI_le (unhide HOKRW).i;have qea:=(unhide HOKRW).p;omega) (by have qaa:=(unhide HOKRW).d.l1;have qba:=(unhide HOKRW).d.l2;have qca:=(unhide HOKRW).d.l3;simp only at qaa qba qca;have qda:=cntI_le (unhide HOKRW).i;have qea:=(unhide HOKRW).p;omega) (by have qaa:=(unhide HOKRW).d.l1;have qba:=(unhide HOKRW).d.l2;have qca:=(unhide HOKRW).d.l3;simp only at qaa qba qca;have qda:=cntI_le (unhide HOKRW).i;have qea:=(unhide HOKRW).p;omega) (by have qaa:=(unhide HOKRW).d.l1;have qba:=(unhide HOKRW).d.l2;have qca:=(unhide HOKRW).d.l3;simp only at qaa qba qca;have qda:=cntI_le (unhide HOKRW).i;have qea:=(unhide HOKRW).p;omega) (by have qaa:=(unhide HOKRW).d.l1;have qba:=(unhide HOKRW).d.l2;have qca:=(unhide HOKRW).d.l3;simp only at qaa qba qca;have qda:=cntI_le (unhide HOKRW).i;have qea:=(unhide HOKRW).p;omega) ((unhide HOKRW).more (by omega)).i (by have qaa:=(unhide HOKRW).d.l1;have qba:=(unhide HOKRW).d.l2;have qca:=(unhide HOKRW).d.l3;simp only at qaa qba qca;have qda:=cntI_le (unhide HOKRW).i;have qea:=(unhide HOKRW).p;omega)).mono ?_
 rintro e w24 ⟨rfl,qgb⟩
 clear qsb qtb qub qvb qwb qxb qyb qzb qac qbc qcc
 have qgk:=blk_next qak qgb
 have qhk:=blk_next qbk qgb
 have qik:=blk_next qck qgb
 have qjk:=blk_next qbe qgb
 have qkk:=qdk.below qgb
 have qlk:=qek.below qgb
 have qmk:=qce.below qgb
 have qde:=qfk.below qgb
 have qeg:Below w.heap.size w w24:=qdg.trans (Below.mono qgb qeo)
 have qfo:=qeg.size
 have qcq:w23.heap.size≤w24.heap.size:=qgb.size
 clear qak qbk qck qbe qdk qek qce qfk qdg qeo qgb
 go_wp2_with fail
 refine (u_heldIntS _ _ _ _ _ (1+(ss1r.length:Int)+(ss2r.length:Int)+7 * (str.length:Int)+(cntI Pr:Int)+3 * (ppr.length:Int)) _ qde (by have qaa:=(unhide HOKRW).d.l1;have qba:=(unhide HOKRW).d.l2;have qca:=(unhide HOKRW).d.l3;simp only at qaa qba qca;have qda:=cntI_le (unhide HOKRW).i;have qea:=(unhide HOKRW).p;have qqb:xsr.length≤1048576:=unhide HOKRN;omega) (by have qaa:=(unhide HOKRW).d.l1;have qba:=(unhide HOKRW).d.l2;have qca:=(unhide HOKRW).d.l3;simp only at qaa qba qca;have qda:=cntI_le (unhide HOKRW).i;have qea:=(unhide HOKRW).p;have qqb:xsr.length≤1048576:=unhide HOKRN;omega) ((unhide HOKRN).more (by omega))).mono ?_
 rintro e w25 ⟨rfl,qhb⟩
 have qee:=blk_next qgk qhb
 have qnk:=blk_next qhk qhb
 have qok:=blk_next qik qhb
 have qpk:=blk_next qjk qhb
 have qqk:=qkk.below qhb
 have qrk:=qlk.below qhb
 have qsk:=qmk.below qhb
 have qtk:=qde.below qhb
 have que:Below w.heap.size w w25:=qeg.trans (Below.mono qhb qfo)
 have qfg:=que.size
 have qdq:w24.heap.size≤w25.heap.size:=qhb.size
 clear qgk qhk qik qjk qkk qlk qmk qde qeg qfo qhb
 obtain ⟨qia,qja,qka,qla,qma,qna,qoa,qpa,qqa,qra,qsa⟩:=blk10 qee
 go_wp2_with fail
 refine (u_toWorkshop d1 f1 ss1 d2 f2 ss2 st P pp m w.heap.size A1 A2 A3 A4 A5 c1 c2 c3 c4 c5 _ (hSW.below que) qfg).mono ?_
 rintro e w26 ⟨A1_t3_0,c1_t3_0,A2_t3_0,c2_t3_0,A3_t3_0,c3_t3_0,A4_t3_0,c4_t3_0,A5_t3_0,c5_t3_0,rfl,hon,qib⟩
 clear qia qja qka qla qma qna qoa qpa qqa qra qsa
 have qfe:=blk_next qee qib
 have quk:=blk_next qnk qib
 have qvk:=blk_next qok qib
 have qwk:=blk_next qpk qib
 have qxk:=qqk.below qib
 have qyk:=qrk.below qib
 have qzk:=qsk.below qib
 have qal:=qtk.below qib
 have qve:Below w.heap.size w w26:=que.trans (Below.mono qib qfg)
 have qgg:=qve.size
 have qeq:w25.heap.size≤w26.heap.size:=qib.size
 clear qee qnk qok qpk qqk qrk qsk qtk que qfg qib
 have qwe:=hon
 clear hon
 obtain ⟨qia,qja,qka,qla,qma,qna,qoa,qpa,qqa,qra,qsa⟩:=blk10 qfe
 go_wp2_with fail
 refine (u_toActS la w.heap.size Aa ca _ (hSa.below qve) qgg).mono ?_
 rintro e w27 ⟨A_t3_1,c_t3_1,rfl,hon,qcb⟩
 clear qia qja qka qla qma qna qoa qpa qqa qra qsa
 have qge:=blk_next qfe qcb
 have qbl:=blk_next quk qcb
 have qcl:=blk_next qvk qcb
 have qdl:=blk_next qwk qcb
 have qel:=qxk.below qcb
 have qfl:=qyk.below qcb
 have qgl:=qzk.below qcb
 have qhl:=qal.below qcb
 have qxe:=qwe.below qcb
 have qhg:Below w.heap.size w w27:=qve.trans (Below.mono qcb qgg)
 have qgo:=qhg.size
 have qfq:w26.heap.size≤w27.heap.size:=qcb.size
 clear qfe quk qvk qwk qxk qyk qzk qal qwe qve qgg qcb
 have qye:=hon
 clear hon
 obtain ⟨qia,qja,qka,qla,qma,qna,qoa,qpa,qqa,qra,qsa⟩:=blk10 qge
 go_wp2_with fail
 refine (unhide HIMPL _ _ _ _ _ _ _ _ _ _ _ (qxe.rd ((unhide HOKW).more (by omega))) _ _ (qye.rd ((unhide HOKa).more (by omega)))).mono ?_
 rintro e w28 ⟨A1_h0,c1_h0,A2_h0,c2_h0,A3_h0,c3_h0,A4_h0,c4_h0,A5_h0,c5_h0,A6_h0,c6_h0,rfl,hon,qjb⟩
 clear qxe
 clear qye
 clear qia qja qka qla qma qna qoa qpa qqa qra qsa
 have qil:=blk_next qge qjb
 have qhe:=blk_next qbl qjb
 have qjl:=blk_next qcl qjb
 have qkl:=blk_next qdl qjb
 have qll:=qel.below qjb
 have qml:=qfl.below qjb
 have qnl:=qgl.below qjb
 have qol:=qhl.below qjb
 have qho:Below w.heap.size w w28:=qhg.trans (Below.mono qjb qgo)
 have qyo:=qho.size
 have qgq:w27.heap.size≤w28.heap.size:=qjb.size
 clear qge qbl qcl qdl qel qfl qgl qhl qhg qgo qjb
 obtain ⟨l1_h0,h1_h0,l2_h0,h2_h0,hr_h0,hd_h0,hon1,hon2⟩:=hon.all
 have qpl:=hon1
 clear hon1
 have qql:=hon2
 clear hon2
 obtain ⟨qyc,qzc,qad,qbd,qcd,qdd,qed,qfd,qgd,qhd,qid⟩:=blk10 qhe
 go_wp2_with fail
 clear qyc qzc qad qbd qcd qdd qed qfd qgd qhd qid
 generalize e_:(World.alloc _ _)=w29
 symm at e_
 have qrl:=hkq e_ (blk_alloc qil _)
 have qsl:=hkq e_ (blk_alloc qhe _)
 have qtl:=hkq e_ (blk_alloc qjl _)
 have qul:=hkq e_ (blk_alloc qkl _)
 have qvl:=hkq e_ (bnk w28.heap.size)
 have qgc:=(qll.alloc (.cells #[.int .i64 d1r,.int .i64 f1r,.slice A1_h0 ss1r.length c1_h0,.int .i64 d2r,.int .i64 f2r,.slice A2_h0 ss2r.length c2_h0,.slice A3_h0 str.length c3_h0,.slice A4_h0 Pr.length c4_h0,.slice A5_h0 ppr.length c5_h0,.int .i64 mr] 41))
 rw [← e_] at qgc
 have qie:=(qml.alloc (.cells #[.int .i64 d1r,.int .i64 f1r,.slice A1_h0 ss1r.length c1_h0,.int .i64 d2r,.int .i64 f2r,.slice A2_h0 ss2r.length c2_h0,.slice A3_h0 str.length c3_h0,.slice A4_h0 Pr.length c4_h0,.slice A5_h0 ppr.length c5_h0,.int .i64 mr] 41))
 rw [← e_] at qie
 have qje:=(qnl.alloc (.cells #[.int .i64 d1r,.int .i64 f1r,.slice A1_h0 ss1r.length c1_h0,.int .i64 d2r,.int .i64 f2r,.slice A2_h0 ss2r.length c2_h0,.slice A3_h0 str.length c3_h0,.slice A4_h0 Pr.length c4_h0,.slice A5_h0 ppr.length c5_h0,.int .i64 mr] 41))
 rw [← e_] at qje
 have qke:=(qol.alloc (.cells #[.int .i64 d1r,.int .i64 f1r,.slice A1_h0 ss1r.length c1_h0,.int .i64 d2r,.int .i64 f2r,.slice A2_h0 ss2r.length c2_h0,.slice A3_h0 str.length c3_h0,.slice A4_h0 Pr.length c4_h0,.slice A5_h0 ppr.length c5_h0,.int .i64 mr] 41))
 rw [← e_] at qke
 have qhc:=(qpl.alloc (.cells #[.int .i64 d1r,.int .i64 f1r,.slice A1_h0 ss1r.length c1_h0,.int .i64 d2r,.int .i64 f2r,.slice A2_h0 ss2r.length c2_h0,.slice A3_h0 str.length c3_h0,.slice A4_h0 Pr.length c4_h0,.slice A5_h0 ppr.length c5_h0,.int .i64 mr] 41))
 rw [← e_] at qhc
 have qle:=(qql.alloc (.cells #[.int .i64 d1r,.int .i64 f1r,.slice A1_h0 ss1r.length c1_h0,.int .i64 d2r,.int .i64 f2r,.slice A2_h0 ss2r.length c2_h0,.slice A3_h0 str.length c3_h0,.slice A4_h0 Pr.length c4_h0,.slice A5_h0 ppr.length c5_h0,.int .i64 mr] 41))
 rw [← e_] at qle
 have qig:Below w.heap.size w w29:=by rw [e_];exact bel
 have qio:=qig.size
 have qhq:w28.heap.size+1≤w29.heap.size:=(by rw [e_];simp;try omega)
 clear e_
 clear qil qhe qjl qkl qll qml qnl qol qpl qql qho qyo
 refine (u_eqWorkshop d1r f1r ss1r d2r f2r ss2r str Pr ppr mr _ _ _ _ _ _ _ _ _ _ _ _ _ _ _ _ _ _ _ _ _ _ _ _ _ qhc qgc ((unhide HOKRW).more (by omega))).mono ?_
 rintro e w30 ⟨rfl,qta⟩
 have qwl:=blk_next qrl qta
 have qxl:=blk_next qsl qta
 have qyl:=blk_next qtl qta
 have qzl:=blk_next qul qta
 have qam:=blk_next qvl qta
 have qbm:=qgc.below qta
 have qme:=qie.below qta
 have qcm:=qje.below qta
 have qdm:=qke.below qta
 have qem:=qhc.below qta
 have qne:=qle.below qta
 have qjg:Below w.heap.size w w30:=qig.trans (Below.mono qta qio)
 have qjo:=qjg.size
 have qiq:w29.heap.size≤w30.heap.size:=qta.size
 clear qrl qsl qtl qul qvl qgc qie qje qke qhc qle qig qio qta
 go_wp2_with fail
 refine (u_eqIntS xsr _ _ _ _ _ _ _ _ _ qne qme ((unhide HOKRN).more (by omega))).mono ?_
 rintro e w31 ⟨rfl,qua⟩
 have qfm:=blk_next qwl qua
 have qgm:=blk_next qxl qua
 have qhm:=blk_next qyl qua
 have qoe:=blk_next qzl qua
 have qim:=blk_next qam qua
 have qjm:=qbm.below qua
 have qkm:=qme.below qua
 have qpe:=qcm.below qua
 have qlm:=qdm.below qua
 have qmm:=qem.below qua
 have qnm:=qne.below qua
 have qkg:Below w.heap.size w w31:=qjg.trans (Below.mono qua qjo)
 have qko:=qkg.size
 have qjq:w30.heap.size≤w31.heap.size:=qua.size
 clear qwl qxl qyl qzl qam qbm qme qcm qdm qem qne qjg qjo qua
 obtain ⟨qsb,qtb,qub,qvb,qwb,qxb,qyb,qzb,qac,qbc,qcc⟩:=blk10 qoe
 go_wp2_with fail
 refine (u_heldWorkshop d1r f1r d2r f2r mr Pr _ _ _ _ _ _ _ _ _ _ _ _ _ _ _ _ (1) _ qpe (by have qaa:=(unhide HOKRW).d.l1;have qba:=(unhide HOKRW).d.l2;have qca:=(unhide HOKRW).d.l3;simp only at qaa qba qca;have qda:=cntI_le (unhide HOKRW).i;have qea:=(unhide HOKRW).p;omega) (by have qaa:=(unhide HOKRW).d.l1;have qba:=(unhide HOKRW).d.l2;have qca:=(unhide HOKRW).d.l3;simp only at qaa qba qca;have qda:=cntI_le (unhide HOKRW).i;have qea:=(unhide HOKRW).p;omega) (by have qaa:=(unhide HOKRW).d.l1;have qba:=(unhide HOKRW).d.l2;have qca:=(unhide HOKRW).d.l3;simp only at qaa qba qca;have qda:=cntI_le (unhide HOKRW).i;have qea:=(unhide HOKRW).p;omega) (by have qaa:=(unhide HOKRW).d.l1;have qba:=(unhide HOKRW).d.l2;have qca:=(unhide HOKRW).d.l3;simp only at qaa qba qca;have qda:=cntI_le (unhide HOKRW).i;have qea:=(unhide HOKRW).p;omega) (by have qaa:=(unhide HOKRW).d.l1;have qba:=(unhide HOKRW).d.l2;have qca:=(unhide HOKRW).d.l3;simp only at qaa qba qca;have qda:=cntI_le (unhide HOKRW).i;have qea:=(unhide HOKRW).p;omega) ((unhide HOKRW).more (by omega)).i (by have qaa:=(unhide HOKRW).d.l1;have qba:=(unhide HOKRW).d.l2;have qca:=(unhide HOKRW).d.l3;simp only at qaa qba qca;have qda:=cntI_le (unhide HOKRW).i;have qea:=(unhide HOKRW).p;omega)).mono ?_
 rintro e w32 ⟨rfl,qva⟩
 clear qsb qtb qub qvb qwb qxb qyb qzb qac qbc qcc
 have qom:=blk_next qfm qva
 have qpm:=blk_next qgm qva
 have qqm:=blk_next qhm qva
 have qrm:=blk_next qoe qva
 have qsm:=blk_next qim qva
 have qtm:=qjm.below qva
 have qum:=qkm.below qva
 have qvm:=qpe.below qva
 have qqe:=qlm.below qva
 have qwm:=qmm.below qva
 have qxm:=qnm.below qva
 have qlg:Below w.heap.size w w32:=qkg.trans (Below.mono qva qko)
 have qlo:=qlg.size
 have qkq:w31.heap.size≤w32.heap.size:=qva.size
 clear qfm qgm qhm qoe qim qjm qkm qpe qlm qmm qnm qkg qko qva
 go_wp2_with fail
 refine (u_heldIntS _ _ _ _ _ (1+(ss1r.length:Int)+(ss2r.length:Int)+7 * (str.length:Int)+(cntI Pr:Int)+3 * (ppr.length:Int)) _ qqe (by have qaa:=(unhide HOKRW).d.l1;have qba:=(unhide HOKRW).d.l2;have qca:=(unhide HOKRW).d.l3;simp only at qaa qba qca;have qda:=cntI_le (unhide HOKRW).i;have qea:=(unhide HOKRW).p;have qqb:xsr.length≤1048576:=unhide HOKRN;omega) (by have qaa:=(unhide HOKRW).d.l1;have qba:=(unhide HOKRW).d.l2;have qca:=(unhide HOKRW).d.l3;simp only at qaa qba qca;have qda:=cntI_le (unhide HOKRW).i;have qea:=(unhide HOKRW).p;have qqb:xsr.length≤1048576:=unhide HOKRN;omega) ((unhide HOKRN).more (by omega))).mono ?_
 rintro e w33 ⟨rfl,qwa⟩
 have qdp:=blk_next qom qwa
 have qep:=blk_next qpm qwa
 have qfp:=blk_next qqm qwa
 have qgp:=blk_next qrm qwa
 have qhp:=blk_next qsm qwa
 have qip:=qtm.below qwa
 have qjp:=qum.below qwa
 have qkp:=qvm.below qwa
 have qlp:=qqe.below qwa
 have qmp:=qwm.below qwa
 have qnp:=qxm.below qwa
 have qmo:Below w.heap.size w w33:=qlg.trans (Below.mono qwa qlo)
 have qlq:=qmo.size
 have qmq:w32.heap.size≤w33.heap.size:=qwa.size
 clear qom qpm qqm qrm qsm qtm qum qvm qqe qwm qxm qlg qlo qwa
 go_wp2
 go_ret
 exact ⟨rfl,qmo⟩
end Go.Proofs.YtdddglihomchfaaGreat.fnExactRunActs
