/- The walk of FnExactIsReplay, for arguments that are not too large. -/
import Derived.Deep.DeepCutAuto
import Derived.Deep.RegionHeld3
import Derived.Deep.Slices
import Derived.Lib.SmallJoins
import Derived.SliceStrings
import Derived.Test.YtdddglihomchfaaGreatRows
import Derived.Test.YtdddglihomchfaaGreatQEs
import Derived.Test.YtdddglihomchfaaGreatQEm
import Derived.Test.YtdddglihomchfaaGreatQELawRun
import Derived.Test.YtdddglihomchfaaGreatQEb
namespace Go.Proofs.YtdddglihomchfaaGreat.fnExactIsReplay
set_option maxHeartbeats 1600000
open Go.ChangeShapes Go.WideShapes Go.ChangeAt Go.RowKit Go.Joins Go.WideMaps Go.WideElems
open Go.ChangeMaps (open_string shut_string)
set_option linter.unusedVariables false
set_option maxRecDepth 100000 in
set_option maxHeartbeats 16000000 in
theorem walkIsReplay (d1 f1:Int) (ss1:List ByteArray) (d2 f2:Int) (ss2:List ByteArray) (st:List PStep) (P:List PItem) (pp:List PPaper) (m:Int) (A1 A2 A3 A4 A5:Option Addr) (c1 c2 c3 c4 c5:Nat) (Aa:Option Addr) (ca:Nat) (la:List PAct) (An:Option Addr) (cn:Nat) (ln:List Int) (w:World) (hSW:RdWork0 w w.heap.size A1 A2 A3 A4 A5 (PDraft.mk d1 f1 ss1 d2 f2 ss2 st) P pp) (hnW:OkWork (PDraft.mk d1 f1 ss1 d2 f2 ss2 st) P pp 1048576) (hSa:Acts w w.heap.size Aa la.length la) (hna:la.length≤1048576) (hSn:Reads w w.heap.size 1 An ln.length (ints ln)) (hnn:ln.length≤1048576) (hz1:0≤szW (PDraft.mk d1 f1 ss1 d2 f2 ss2 st) P pp (1048576)) (hz2:0≤szActs la (szW (PDraft.mk d1 f1 ss1 d2 f2 ss2 st) P pp (1048576))) :
  Calls Tryz.prog 14 #[.agg #[.int .i64 d1,.int .i64 f1,.slice A1 ss1.length c1,.int .i64 d2,.int .i64 f2,.slice A2 ss2.length c2,.slice A3 st.length c3,.slice A4 P.length c4,.slice A5 pp.length c5,.int .i64 m],.slice Aa la.length ca,.slice An ln.length cn] w fun e w'=>e=.returned (.bool true)∧Below w.heap.size w w':=by
 have hlenn:ln.length≤16777216:=by omega
 have hokW:OkWork (PDraft.mk d1 f1 ss1 d2 f2 ss2 st) P pp 1048576:=hnW
 have hoka:OkL la 1048576:=hna
 have hokn:OkL ln 1048576:=hnn
 have hspec:=fun (W:World) (A1_0W:Option Addr) (c1_0W:Nat) (A2_0W:Option Addr) (c2_0W:Nat) (A3_0W:Option Addr) (c3_0W:Nat) (A4_0W:Option Addr) (c4_0W:Nat) (A5_0W:Option Addr) (c5_0W:Nat) (h_0W:RdWork W W.heap.size A1_0W A2_0W A3_0W A4_0W c4_0W A5_0W (PDraft.mk d1 f1 ss1 d2 f2 ss2 st) P pp) (A_0a:Option Addr) (c_0a:Nat) (h_0a:Acts W W.heap.size A_0a la.length la) (A_0n:Option Addr) (c_0n:Nat) (h_0n:Reads W W.heap.size 1 A_0n ln.length (ints ln))=>s_IsReplay d1 f1 ss1 d2 f2 ss2 st P pp m la ln W.heap.size A1_0W A2_0W A3_0W A4_0W A5_0W c1_0W c2_0W c3_0W c4_0W c5_0W A_0a c_0a A_0n c_0n W h_0W h_0a h_0n (by omega) (Nat.le_refl _) hokW
 have himpl:=fun (W:World) (A1_0W:Option Addr) (c1_0W:Nat) (A2_0W:Option Addr) (c2_0W:Nat) (A3_0W:Option Addr) (c3_0W:Nat) (A4_0W:Option Addr) (c4_0W:Nat) (A5_0W:Option Addr) (c5_0W:Nat) (h_0W:RdWork W W.heap.size A1_0W A2_0W A3_0W A4_0W c4_0W A5_0W (PDraft.mk d1 f1 ss1 d2 f2 ss2 st) P pp) (A_0a:Option Addr) (c_0a:Nat) (h_0a:Acts W W.heap.size A_0a la.length la) (A_0n:Option Addr) (c_0n:Nat) (h_0n:Reads W W.heap.size 1 A_0n ln.length (ints ln))=>i_IsReplay d1 f1 ss1 d2 f2 ss2 st P pp m la ln W.heap.size A1_0W A2_0W A3_0W A4_0W A5_0W c1_0W c2_0W c3_0W c4_0W c5_0W A_0a c_0a A_0n c_0n W h_0W h_0a h_0n (by omega) (Nat.le_refl _) hokW
 generalize hgen0:(replay (PWork.mk (PDraft.mk d1 f1 ss1 d2 f2 ss2 st) P pp m) la ln)=rb at hspec himpl
 clear hgen0
 have HSPEC:=hide hspec
 have HIMPL:=hide himpl
 clear hspec himpl
 have HOKW:=hide hokW
 clear hokW
 have HOKa:=hide hoka
 clear hoka
 have HOKn:=hide hokn
 clear hokn
 go_enter Tryz.func14,Tryz.ntmps14
 go_wp2_with fail
 generalize e_:(World.alloc _ _)=w1
 symm at e_
 have qmd:=hkq e_ (bnk w.heap.size)
 have qnb:Below w.heap.size w w1:=by rw [e_];exact bel
 have qnd:=qnb.size
 have qhf:w.heap.size+1≤w1.heap.size:=(by rw [e_];simp;try omega)
 clear e_
 refine (l_szWorkshop d1 f1 ss1 d2 f2 ss2 st P pp m w.heap.size A1 A2 A3 A4 A5 c1 c2 c3 c4 c5 (1048576) _ qnd (hSW.raw.below qnb) (by omega) (by omega)).mono ?_
 rintro e w2 ⟨rfl,qhd⟩
 have qod:=blk_next qmd qhd
 have qpd:Below w.heap.size w w2:=qnb.trans (Below.mono qhd qnd)
 have qpe:=qpd.size
 have qif:w1.heap.size≤w2.heap.size:=qhd.size
 clear qmd qnb qnd qhd
 have qjf:szW (PDraft.mk d1 f1 ss1 d2 f2 ss2 st) P pp (1048576)≤1048576:=szW_ub _ _ _ _ (by omega)
 go_wp2_with fail
 refine (l_szActS la Aa ca (szW (PDraft.mk d1 f1 ss1 d2 f2 ss2 st) P pp (1048576)) _ (by omega) (by omega) (by omega)).mono ?_
 rintro e w3 ⟨rfl,qid⟩
 have qhb:=blk_next qod qid
 have qob:Below w.heap.size w w3:=qpd.trans (Below.mono qid qpe)
 have qqd:=qob.size
 have qkf:w2.heap.size≤w3.heap.size:=qid.size
 clear qod qpd qpe qid
 have qlf:szActs la (szW (PDraft.mk d1 f1 ss1 d2 f2 ss2 st) P pp (1048576))≤1048576:=szActs_ub _ _ (by omega)
 obtain ⟨qaa,qba,qca,qda,qea,qfa,qga,qha,qia,qja,qka⟩:=blk10 qhb
 go_wp2_with fail
 refine (u_toWorkshop d1 f1 ss1 d2 f2 ss2 st P pp m w.heap.size A1 A2 A3 A4 A5 c1 c2 c3 c4 c5 _ (hSW.below qob) qqd).mono ?_
 rintro e w4 ⟨A1_t1_0,c1_t1_0,A2_t1_0,c2_t1_0,A3_t1_0,c3_t1_0,A4_t1_0,c4_t1_0,A5_t1_0,c5_t1_0,rfl,hon,qjd⟩
 clear qaa qba qca qda qea qfa qga qha qia qja qka
 have qib:=blk_next qhb qjd
 have qpb:Below w.heap.size w w4:=qob.trans (Below.mono qjd qqd)
 have qrd:=qpb.size
 have qmf:w3.heap.size≤w4.heap.size:=qjd.size
 clear qhb qob qqd qjd
 have qqb:=hon
 clear hon
 obtain ⟨qaa,qba,qca,qda,qea,qfa,qga,qha,qia,qja,qka⟩:=blk10 qib
 go_wp2_with fail
 refine (u_toActS la w.heap.size Aa ca _ (hSa.below qpb) qrd).mono ?_
 rintro e w5 ⟨A_t1_1,c_t1_1,rfl,hon,qrb⟩
 clear qaa qba qca qda qea qfa qga qha qia qja qka
 have qjb:=blk_next qib qrb
 have qsb:=qqb.below qrb
 have qtb:Below w.heap.size w w5:=qpb.trans (Below.mono qrb qrd)
 have qsd:=qtb.size
 have qnf:w4.heap.size≤w5.heap.size:=qrb.size
 clear qib qqb qpb qrd qrb
 have qub:=hon
 clear hon
 obtain ⟨qaa,qba,qca,qda,qea,qfa,qga,qha,qia,qja,qka⟩:=blk10 qjb
 go_wp2_with fail
 refine (u_toIntS ln w.heap.size An cn _ (hSn.below qtb) hlenn qsd).mono ?_
 rintro e w6 ⟨A_t1_2,c_t1_2,rfl,hon,qbb⟩
 clear qaa qba qca qda qea qfa qga qha qia qja qka
 have qkb:=blk_next qjb qbb
 have qvb:=qsb.below qbb
 have qwb:=qub.below qbb
 have qtd:Below w.heap.size w w6:=qtb.trans (Below.mono qbb qsd)
 have qqe:=qtd.size
 have qof:w5.heap.size≤w6.heap.size:=qbb.size
 clear qjb qsb qub qtb qsd qbb
 have qxb:=hon
 clear hon
 obtain ⟨qaa,qba,qca,qda,qea,qfa,qga,qha,qia,qja,qka⟩:=blk10 qkb
 go_wp2_with fail
 refine (unhide HSPEC _ _ _ _ _ _ _ _ _ _ _ (qvb.rd ((unhide HOKW).more (by omega))) _ _ (qwb.rd ((unhide HOKa).more (by omega))) _ _ qxb.rd).mono ?_
 rintro e w7 ⟨rfl,qkd⟩
 clear qvb
 clear qwb
 clear qxb
 clear qaa qba qca qda qea qfa qga qha qia qja qka
 have qlb:=blk_next qkb qkd
 have qyb:Below w.heap.size w w7:=qtd.trans (Below.mono qkd qqe)
 have qud:=qyb.size
 have qpf:w6.heap.size≤w7.heap.size:=qkd.size
 clear qkb qtd qqe qkd
 obtain ⟨qaa,qba,qca,qda,qea,qfa,qga,qha,qia,qja,qka⟩:=blk10 qlb
 go_wp2_with fail
 refine (u_toWorkshop d1 f1 ss1 d2 f2 ss2 st P pp m w.heap.size A1 A2 A3 A4 A5 c1 c2 c3 c4 c5 _ (hSW.below qyb) qud).mono ?_
 rintro e w8 ⟨A1_x0,c1_x0,A2_x0,c2_x0,A3_x0,c3_x0,A4_x0,c4_x0,A5_x0,c5_x0,rfl,hon,qld⟩
 clear qaa qba qca qda qea qfa qga qha qia qja qka
 have qvd:=blk_next qlb qld
 have qre:Below w.heap.size w w8:=qyb.trans (Below.mono qld qud)
 have qse:=qre.size
 have qqf:w7.heap.size≤w8.heap.size:=qld.size
 clear qlb qyb qud qld
 have qwd:=hon
 clear hon
 go_wp2_with fail
 generalize e_:(World.alloc _ _)=w9
 symm at e_
 have qxd:=hkq e_ (blk_alloc qvd _)
 have qyd:=hkq e_ (bnk w8.heap.size)
 have qmb:=(qwd.alloc (.cells #[.int .i64 d1,.int .i64 f1,.slice A1_x0 ss1.length c1_x0,.int .i64 d2,.int .i64 f2,.slice A2_x0 ss2.length c2_x0,.slice A3_x0 st.length c3_x0,.slice A4_x0 P.length c4_x0,.slice A5_x0 pp.length c5_x0,.int .i64 m] 41))
 rw [← e_] at qmb
 have qzb:Below w.heap.size w w9:=by rw [e_];exact bel
 have qzd:=qzb.size
 have qrf:w8.heap.size+1≤w9.heap.size:=(by rw [e_];simp;try omega)
 clear e_
 clear qvd qwd qre qse
 refine (u_toActS la w.heap.size Aa ca _ (hSa.below qzb) qzd).mono ?_
 rintro e w10 ⟨A_x1,c_x1,rfl,hon,qsa⟩
 have qic:=blk_next qxd qsa
 have qjc:=blk_next qyd qsa
 have qkc:=qmb.below qsa
 have qcb:Below w.heap.size w w10:=qzb.trans (Below.mono qsa qzd)
 have qcc:=qcb.size
 have qye:w9.heap.size≤w10.heap.size:=qsa.size
 clear qxd qyd qmb qzb qzd qsa
 have qlc:=hon
 clear hon
 go_wp2_with fail
 refine (u_toIntS ln w.heap.size An cn _ (hSn.below qcb) hlenn qcc).mono ?_
 rintro e w11 ⟨A_x2,c_x2,rfl,hon,qqa⟩
 have qmc:=blk_next qic qqa
 have qta:=blk_next qjc qqa
 have qua:=qkc.below qqa
 have qva:=qlc.below qqa
 have qdc:Below w.heap.size w w11:=qcb.trans (Below.mono qqa qcc)
 have qle:=qdc.size
 have qze:w10.heap.size≤w11.heap.size:=qqa.size
 clear qic qjc qkc qlc qcb qcc qqa
 have qwa:=hon
 clear hon
 obtain ⟨qae,qbe,qce,qde,qee,qfe,qge,qhe,qie,qje,qke⟩:=blk10 qta
 go_wp2_with fail
 refine (unhide HIMPL _ _ _ _ _ _ _ _ _ _ _ (qua.rd ((unhide HOKW).more (by omega))) _ _ (qva.rd ((unhide HOKa).more (by omega))) _ _ qwa.rd).mono ?_
 rintro e w12 ⟨rfl,qla⟩
 clear qae qbe qce qde qee qfe qge qhe qie qje qke
 have qxa:=blk_next qmc qla
 have qya:=blk_next qta qla
 have qra:=qua.below qla
 have qnc:=qva.below qla
 have qoc:=qwa.below qla
 have qdb:Below w.heap.size w w12:=qdc.trans (Below.mono qla qle)
 have qeb:=qdb.size
 have qaf:w11.heap.size≤w12.heap.size:=qla.size
 clear qmc qta qua qva qwa qdc qle qla
 obtain ⟨qaa,qba,qca,qda,qea,qfa,qga,qha,qia,qja,qka⟩:=blk10 qxa
 obtain ⟨qae,qbe,qce,qde,qee,qfe,qge,qhe,qie,qje,qke⟩:=blk10 qya
 go_wp2_with fail
 have hS_c:=hSW.below qdb
 go_region_held3 (fun W=>(∀ b o,b<w12.heap.size→W.cell? ⟨b,o,none⟩=(w12).cell? ⟨b,o,none⟩)∧(∀ b o,b<w12.heap.size→W.frozen? ⟨b,o,none⟩=(w12).frozen? ⟨b,o,none⟩)∧Below (w12.heap.size) (w12) W) (exact keep_of bel) (first|(go_at_call 17;have hq:=(‹_∧_∧Below _ _ _›).2.2;refine (u_toWorkshop d1 f1 ss1 d2 f2 ss2 st P pp m w.heap.size A1 A2 A3 A4 A5 c1 c2 c3 c4 c5 _ ?_ ?_).mono ?_;exact hS_c.below (hq.mono qeb);exact Nat.le_trans qeb hq.size;rintro e wa_w13 ⟨A1_aw13,c1_aw13,A2_aw13,c2_aw13,A3_aw13,c3_aw13,A4_aw13,c4_aw13,A5_aw13,c5_aw13,rfl,hoa,hba⟩)|(go_at_call 19;have hq2:=(‹_∧_∧Below _ _ _›).2.2;(first|refine (u_eqWorkshop d1 f1 ss1 d2 f2 ss2 st P pp m _ _ _ _ _ _ _ _ _ _ _ _ _ _ _ _ _ _ _ _ _ _ _ _ _ (qra.below hq2) hoa ((unhide HOKW).more (by omega))).mono ?_|refine (u_eqWorkshop d1 f1 ss1 d2 f2 ss2 st P pp m _ _ _ _ _ _ _ _ _ _ _ _ _ _ _ _ _ _ _ _ _ _ _ _ _ (qra.below hq2) hoa.drew ((unhide HOKW).more (by omega))).mono ?_);rintro e w13 ⟨rfl,hbz⟩))
 have hb67:Below w12.heap.size w12 wa_w13:=(Below.refl _ _).drew.trans hba
 have hz7:w12.heap.size≤wa_w13.heap.size:=hba.size
 have hb68:Below w12.heap.size w12 w13:=hb67.trans (hbz.mono hz7)
 clear hS_c hoa hba hbz hb67 hz7
 clear qaa qba qca qda qea qfa qga qha qia qja qka qae qbe qce qde qee qfe qge qhe qie qje qke
 have qpc:=blk_next qxa hb68
 have qqc:=blk_next qya hb68
 have qrc:=qra.below hb68
 have qsc:=qnc.below hb68
 have qtc:=qoc.below hb68
 have qfb:Below w.heap.size w w13:=qdb.trans (Below.mono hb68 qeb)
 have qec:=qfb.size
 have qbf:w12.heap.size≤w13.heap.size:=hb68.size
 clear qxa qya qra qnc qoc qdb qeb hb68
 go_wp2_with fail
 refine (u_toActS la w.heap.size Aa ca _ (hSa.below qfb) qec).mono ?_
 rintro e w14 ⟨A_a14,c_a14,rfl,hon,qma⟩
 have quc:=blk_next qpc qma
 have qvc:=blk_next qqc qma
 have qwc:=qrc.below qma
 have qza:=qsc.below qma
 have qxc:=qtc.below qma
 have qfc:Below w.heap.size w w14:=qfb.trans (Below.mono qma qec)
 have qme:=qfc.size
 have qcf:w13.heap.size≤w14.heap.size:=qma.size
 clear qpc qqc qrc qsc qtc qfb qec qma
 have qac:=hon
 clear hon
 go_wp2_with fail
 refine (u_eqActS la _ _ _ _ _ _ _ _ _ qza qac ((unhide HOKa).more (by omega))).mono ?_
 rintro e w15 ⟨rfl,qna⟩
 clear qac
 have qyc:=blk_next quc qna
 have qzc:=blk_next qvc qna
 have qad:=qwc.below qna
 have qbd:=qza.below qna
 have qcd:=qxc.below qna
 have qgb:Below w.heap.size w w15:=qfc.trans (Below.mono qna qme)
 have qgc:=qgb.size
 have qdf:w14.heap.size≤w15.heap.size:=qna.size
 clear quc qvc qwc qza qxc qfc qme qna
 go_wp2_with fail
 refine (u_toIntS ln w.heap.size An cn _ (hSn.below qgb) hlenn qgc).mono ?_
 rintro e w16 ⟨A_a16,c_a16,rfl,hon,qoa⟩
 have qdd:=blk_next qyc qoa
 have qed:=blk_next qzc qoa
 have qfd:=qad.below qoa
 have qgd:=qbd.below qoa
 have qab:=qcd.below qoa
 have qhc:Below w.heap.size w w16:=qgb.trans (Below.mono qoa qgc)
 have qne:=qhc.size
 have qef:w15.heap.size≤w16.heap.size:=qoa.size
 clear qyc qzc qad qbd qcd qgb qgc qoa
 have qbc:=hon
 clear hon
 go_wp2_with fail
 refine (u_eqIntS ln _ _ _ _ _ _ _ _ _ qab qbc ((unhide HOKn).more (by omega))).mono ?_
 rintro e w17 ⟨rfl,qpa⟩
 clear qbc
 have qte:=blk_next qdd qpa
 have que:=blk_next qed qpa
 have qve:=qfd.below qpa
 have qwe:=qgd.below qpa
 have qxe:=qab.below qpa
 have qoe:Below w.heap.size w w17:=qhc.trans (Below.mono qpa qne)
 have qff:=qoe.size
 have qgf:w16.heap.size≤w17.heap.size:=qpa.size
 clear qdd qed qfd qgd qab qhc qne qpa
 go_wp2
 go_ret
 exact ⟨rfl,qoe⟩
end Go.Proofs.YtdddglihomchfaaGreat.fnExactIsReplay
