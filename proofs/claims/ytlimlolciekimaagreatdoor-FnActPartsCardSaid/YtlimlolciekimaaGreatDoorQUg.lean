/- Contracts of the program's and the reference's functions (Draft6s). -/
import Derived.Test.YtlimlolciekimaaGreatDoorRows
import Derived.Test.YtlimlolciekimaaGreatDoorQUf
namespace Go.Proofs.YtlimlolciekimaaGreatDoor
set_option maxHeartbeats 1600000
open Go.ChangeShapes Go.WideShapes Go.ChangeAt Go.RowKit
set_option linter.unusedVariables false
set_option maxRecDepth 10000
set_option maxHeartbeats 8000000 in
theorem s_DoStep (D:PDraft) (s:PStep) (B:Nat) (A1 A2 A3:Option Addr) (c1 c2 c3:Nat) (w:World) (hS:RdDraft w B A1 A2 A3 D) (hB:B≤w.heap.size) (hbz:s.b.size≤16777216) (haz:s.a.size≤16777216) :
  Calls Tryz.prog 183 #[.agg (draftV D A1 c1 A2 c2 A3 c3),.agg #[.int .i64 s.K,.int .i64 s.F,.int .i64 s.L,.int .i64 s.T,.int .i64 s.I,.string s.b,.string s.a]] w (UDraftB (doRes D s).1.d1 (doRes D s).1.f1 (doRes D s).1.ss1 (doRes D s).1.d2 (doRes D s).1.f2 (doRes D s).1.ss2 (doRes D s).1.st (doRes D s).2 w):=by
 obtain ⟨d1,f1,ss1,d2,f2,ss2,st⟩:=D
 obtain ⟨K,F,L,T,I,bs,as_⟩:=s
 have hD:=hS
 obtain ⟨h1,h2,h3⟩:=hS
 simp only at h1 h2 h3 hbz haz
 have hn1:=h1.nb
 have hn2:=h2.nb
 have hn3:=h3.nb
 have hok:=fun (W:World) (hW:Below w.heap.size w W)=>s_DraftOk (PDraft.mk d1 f1 ss1 d2 f2 ss2 st) B A1 A2 A3 c1 c2 c3 W (hD.below (hW.mono hB)) (Nat.le_trans hB hW.size)
 have hso:=fun (W:World) (hW:Below w.heap.size w W)=>(s_StepOn d2 f2 B A2 _ c2 ss2 K F L T I bs as_ W (h2.below (hW.mono hB)) (Nat.le_trans hB hW.size) hbz haz).mono fun _ _ h=>UCardB.of h
 have hcp:=fun (W:World) (hW:Below w.heap.size w W)=>u_l37Copy d1 f1 ss1 d2 f2 ss2 st B A1 A2 A3 c1 c2 c3 W (hD.below (hW.mono hB)) (Nat.le_trans hB hW.size)
 have hr:doRes (PDraft.mk d1 f1 ss1 d2 f2 ss2 st) (PStep.mk K F L T I bs as_)=if (draftOk (PDraft.mk d1 f1 ss1 d2 f2 ss2 st)=true∧st.length≠40)∧(stepRes true d2 f2 ss2 K F L T I bs as_).2=true then (⟨d1,f1,ss1,d2,f2,(stepRes true d2 f2 ss2 K F L T I bs as_).1,st++[(PStep.mk K F L T I bs as_)]⟩,true) else ((PDraft.mk d1 f1 ss1 d2 f2 ss2 st),false):=rfl
 have h40:=fun (h:draftOk (PDraft.mk d1 f1 ss1 d2 f2 ss2 st)=true)=>draftOk_st h
 simp only at h40
 unfold draftV
 simp only
 generalize draftOk (PDraft.mk d1 f1 ss1 d2 f2 ss2 st)=dk at hok hr h40
 generalize (stepRes true d2 f2 ss2 K F L T I bs as_).1=sn at hso hr
 generalize (stepRes true d2 f2 ss2 K F L T I bs as_).2=sb at hso hr
 generalize doRes (PDraft.mk d1 f1 ss1 d2 f2 ss2 st) (PStep.mk K F L T I bs as_)=res at hr ⊢
 have HOK:=hide hok
 have HSO:=hide hso
 have HCP:=hide hcp
 clear hok hso hcp hD
 obtain ⟨i0,hi0,hz0,hz1,hz2⟩:=info_parts info_stepCells
 cases dk
 ·have HR:Hid (res=((PDraft.mk d1 f1 ss1 d2 f2 ss2 st),false)):=by unfold Hid;rw [hr];exact if_neg (by simp)
  clear hr h40
  go_enter Tryz.func183,Tryz.ntmps183
  go_wp2_with fail
  generalize e_:(World.alloc _ _)=w1
  symm at e_
  have qna:=hkq e_ (blk_alloc (blk_alloc (bnk w.heap.size) _) _)
  have qoa:=hkq e_ (blk_alloc (bnk (w.heap.size+1)) _)
  have qpa:=hkq e_ (bnk (w.heap.size+1+1))
  have qea:Below w.heap.size w w1:=by rw [e_];exact bel
  have qab:=qea.size
  have quc:w.heap.size+3≤w1.heap.size:=(by rw [e_];simp;try omega)
  clear e_
  refine (unhide HCP _ qea).mono ?_
  rintro e w2 ⟨A1_o,c1_o,A2_o,c2_o,A3_o,c3_o,rfl,hon,qda⟩
  have qga:=blk_next qna qda
  have qqa:=blk_next qoa qda
  have qra:=blk_next qpa qda
  have qbb:Below w.heap.size w w2:=qea.trans (Below.mono qda qab)
  have qrb:=qbb.size
  have qvc:w1.heap.size≤w2.heap.size:=qda.size
  clear qna qoa qpa qea qab qda
  have qsa:=hon
  clear hon
  obtain ⟨qdb,qeb,qfb,qgb,qhb,qib,qjb,qkb⟩:=blk7 qga
  go_wp2_with fail
  clear qdb qeb qfb qgb qhb qib qjb qkb
  generalize e_:(World.alloc _ _)=w3
  symm at e_
  have qta:=hkq e_ (blk_alloc qga _)
  have qua:=hkq e_ (blk_alloc qqa _)
  have qva:=hkq e_ (blk_alloc qra _)
  have qwa:=hkq e_ (bnk w2.heap.size)
  have qha:=(qsa.alloc (.cells #[.int .i64 d1,.int .i64 f1,.slice A1_o ss1.length c1_o,.int .i64 d2,.int .i64 f2,.slice A2_o ss2.length c2_o,.slice A3_o st.length c3_o] 29))
  rw [← e_] at qha
  have qfa:Below w.heap.size w w3:=by rw [e_];exact bel
  have qcb:=qfa.size
  have qwc:w2.heap.size+1≤w3.heap.size:=(by rw [e_];simp;try omega)
  clear e_
  clear qga qqa qra qsa qbb qrb
  refine (unhide HOK _ qfa).mono ?_
  rintro e w4 ⟨rfl,qca⟩
  have qka:=blk_next qta qca
  have qlb:=blk_next qua qca
  have qaa:=blk_next qva qca
  have qba:=blk_next qwa qca
  have qmb:=qha.below qca
  have qja:Below w.heap.size w w4:=qfa.trans (Below.mono qca qcb)
  have qsb:=qja.size
  have qxc:w3.heap.size≤w4.heap.size:=qca.size
  clear qta qua qva qwa qha qfa qcb qca
  obtain ⟨qdd,qed,qfd,qgd,qhd,qid,qjd,qkd⟩:=blk7 qaa
  have hfz0_r:=(blk_cells qaa 0).2
  have hfz1_r:=(blk_cells qaa 1).2
  have hfz2_r:=(blk_cells qaa 2).2
  have hfz3_r:=(blk_cells qaa 3).2
  have hfz4_r:=(blk_cells qaa 4).2
  have hfz5_r:=(blk_cells qaa 5).2
  have hfz6_r:=(blk_cells qaa 6).2
  obtain ⟨qzb,qac,qbc,qcc,qdc,qec,qfc,qgc⟩:=blk7 qba
  have hfz0_o:=(blk_cells qba 0).2
  have hfz1_o:=(blk_cells qba 1).2
  have hfz2_o:=(blk_cells qba 2).2
  have hfz3_o:=(blk_cells qba 3).2
  have hfz4_o:=(blk_cells qba 4).2
  have hfz5_o:=(blk_cells qba 5).2
  have hfz6_o:=(blk_cells qba 6).2
  go_wp2
  refine bodyPost_ret (v:=.tuple #[.agg #[.int .i64 d1,.int .i64 f1,.slice A1_o ss1.length c1_o,.int .i64 d2,.int .i64 f2,.slice A2_o ss2.length c2_o,.slice A3_o st.length c3_o],.bool false]) (by simp [results,Tryz.results183,go_sem, *]) rfl ?_
  have qhc:=boxAt_of qka
  have qic:=boxAt_of qaa
  have qjc:=boxAt_of qba
  have hr2:=HR.out;subst hr2
  exact ⟨A1_o,c1_o,A2_o,c2_o,A3_o,c3_o,rfl,(qmb.boxy (by repeat (first|(with_reducible exact Boxy.refl _)|(with_reducible refine Boxy.drew ?_)|(with_reducible refine Boxy.drewN ?_ _)|(with_reducible refine Boxy.alloc ?_ _)|((with_reducible refine Boxy.setCell ?_ ?hbs _);(case hbs=>first|(with_reducible exact .inl (by assumption))|exact .inl (by assumption)|exact .inr (by simp)|exact .inr (by simp;omega)))))).wide (by omega) (by simp;try omega),(((((((qja.setCell (p:=⟨w.heap.size+1+1,0,none⟩) (by show w.heap.size≤w.heap.size+1+1;omega) _).setCell (p:=⟨w.heap.size+1+1,1,none⟩) (by show w.heap.size≤w.heap.size+1+1;omega) _).setCell (p:=⟨w.heap.size+1+1,2,none⟩) (by show w.heap.size≤w.heap.size+1+1;omega) _).setCell (p:=⟨w.heap.size+1+1,3,none⟩) (by show w.heap.size≤w.heap.size+1+1;omega) _).setCell (p:=⟨w.heap.size+1+1,4,none⟩) (by show w.heap.size≤w.heap.size+1+1;omega) _).setCell (p:=⟨w.heap.size+1+1,5,none⟩) (by show w.heap.size≤w.heap.size+1+1;omega) _).setCell (p:=⟨w.heap.size+1+1,6,none⟩) (by show w.heap.size≤w.heap.size+1+1;omega) _)⟩
 ·have h4:=h40 rfl
  cases he:((st.length:Int)==40)
  ·have hne:st.length≠40:=by intro h;rw [h] at he;simp at he
   cases sb
   ·have HR:Hid (res=((PDraft.mk d1 f1 ss1 d2 f2 ss2 st),false)):=by unfold Hid;rw [hr];exact if_neg (by simp)
    clear hr h40 hne
    go_enter Tryz.func183,Tryz.ntmps183
    go_wp2_with fail
    generalize e_:(World.alloc _ _)=w1
    symm at e_
    have qna:=hkq e_ (blk_alloc (blk_alloc (bnk w.heap.size) _) _)
    have qoa:=hkq e_ (blk_alloc (bnk (w.heap.size+1)) _)
    have qpa:=hkq e_ (bnk (w.heap.size+1+1))
    have qea:Below w.heap.size w w1:=by rw [e_];exact bel
    have qab:=qea.size
    have quc:w.heap.size+3≤w1.heap.size:=(by rw [e_];simp;try omega)
    clear e_
    refine (unhide HCP _ qea).mono ?_
    rintro e w2 ⟨A1_o,c1_o,A2_o,c2_o,A3_o,c3_o,rfl,hon,qda⟩
    have qga:=blk_next qna qda
    have qqa:=blk_next qoa qda
    have qra:=blk_next qpa qda
    have qbb:Below w.heap.size w w2:=qea.trans (Below.mono qda qab)
    have qrb:=qbb.size
    have qvc:w1.heap.size≤w2.heap.size:=qda.size
    clear qna qoa qpa qea qab qda
    have qsa:=hon
    clear hon
    obtain ⟨qdb,qeb,qfb,qgb,qhb,qib,qjb,qkb⟩:=blk7 qga
    go_wp2_with fail
    clear qdb qeb qfb qgb qhb qib qjb qkb
    generalize e_:(World.alloc _ _)=w3
    symm at e_
    have qta:=hkq e_ (blk_alloc qga _)
    have qua:=hkq e_ (blk_alloc qqa _)
    have qva:=hkq e_ (blk_alloc qra _)
    have qwa:=hkq e_ (bnk w2.heap.size)
    have qha:=(qsa.alloc (.cells #[.int .i64 d1,.int .i64 f1,.slice A1_o ss1.length c1_o,.int .i64 d2,.int .i64 f2,.slice A2_o ss2.length c2_o,.slice A3_o st.length c3_o] 29))
    rw [← e_] at qha
    have qfa:Below w.heap.size w w3:=by rw [e_];exact bel
    have qcb:=qfa.size
    have qwc:w2.heap.size+1≤w3.heap.size:=(by rw [e_];simp;try omega)
    clear e_
    clear qga qqa qra qsa qbb qrb
    refine (unhide HOK _ qfa).mono ?_
    rintro e w4 ⟨rfl,qca⟩
    have qka:=blk_next qta qca
    have qlb:=blk_next qua qca
    have qaa:=blk_next qva qca
    have qba:=blk_next qwa qca
    have qmb:=qha.below qca
    have qja:Below w.heap.size w w4:=qfa.trans (Below.mono qca qcb)
    have qsb:=qja.size
    have qxc:w3.heap.size≤w4.heap.size:=qca.size
    clear qta qua qva qwa qha qfa qcb qca
    obtain ⟨qdb,qeb,qfb,qgb,qhb,qib,qjb,qkb⟩:=blk7 qka
    obtain ⟨qkc,qlc,qmc,qnc,qoc,qpc,qqc,qrc⟩:=blk7 qlb
    go_wp2_with fail
    refine (unhide HSO _ qja).mono ?_
    rintro e w5 ⟨A_n,c_n,rfl,hon,qma⟩
    clear qdb qeb qfb qgb qhb qib qjb qkb qkc qlc qmc qnc qoc qpc qqc qrc
    have qnb:=blk_next qka qma
    have qqb:=blk_next qlb qma
    have qob:=blk_next qaa qma
    have qia:=blk_next qba qma
    have qub:=qmb.below qma
    have qxb:Below w.heap.size w w5:=qja.trans (Below.mono qma qsb)
    have qyc:=qxb.size
    have qld:w4.heap.size≤w5.heap.size:=qma.size
    clear qka qlb qaa qba qmb qja qsb qma
    have qvb:=hon
    clear hon
    go_upto_region 5 with fail
    generalize e_:(World.alloc _ _)=w6
    symm at e_
    have qsc:=hkq e_ (blk_alloc qnb _)
    have qzc:=hkq e_ (blk_alloc qqb _)
    have qxa:=hkq e_ (blk_alloc qob _)
    have qla:=hkq e_ (blk_alloc qia _)
    have qtc:=hkq e_ (bnk w5.heap.size)
    have qpb:=(qub.alloc (.cells #[.int .i64 d2,.int .i64 f2,.slice A_n sn.length c_n] 26))
    rw [← e_] at qpb
    have qwb:=(qvb.alloc (.cells #[.int .i64 d2,.int .i64 f2,.slice A_n sn.length c_n] 26))
    rw [← e_] at qwb
    have qyb:Below w.heap.size w w6:=by rw [e_];exact bel
    have qmd:=qyb.size
    have qnd:w5.heap.size+1≤w6.heap.size:=(by rw [e_];simp;try omega)
    clear e_
    clear qnb qqb qob qia qub qvb qxb qyc
    obtain ⟨qdd,qed,qfd,qgd,qhd,qid,qjd,qkd⟩:=blk7 qxa
    have hfz0_r:=(blk_cells qxa 0).2
    have hfz1_r:=(blk_cells qxa 1).2
    have hfz2_r:=(blk_cells qxa 2).2
    have hfz3_r:=(blk_cells qxa 3).2
    have hfz4_r:=(blk_cells qxa 4).2
    have hfz5_r:=(blk_cells qxa 5).2
    have hfz6_r:=(blk_cells qxa 6).2
    obtain ⟨qzb,qac,qbc,qcc,qdc,qec,qfc,qgc⟩:=blk7 qla
    have hfz0_o:=(blk_cells qla 0).2
    have hfz1_o:=(blk_cells qla 1).2
    have hfz2_o:=(blk_cells qla 2).2
    have hfz3_o:=(blk_cells qla 3).2
    have hfz4_o:=(blk_cells qla 4).2
    have hfz5_o:=(blk_cells qla 5).2
    have hfz6_o:=(blk_cells qla 6).2
    go_wp2
    refine bodyPost_ret (v:=.tuple #[.agg #[.int .i64 d1,.int .i64 f1,.slice A1_o ss1.length c1_o,.int .i64 d2,.int .i64 f2,.slice A2_o ss2.length c2_o,.slice A3_o st.length c3_o],.bool false]) (by simp [results,Tryz.results183,go_sem, *]) rfl ?_
    have qhc:=boxAt_of qsc
    have qic:=boxAt_of qxa
    have qjc:=boxAt_of qla
    have qod:=boxAt_of qtc
    have hr2:=HR.out;subst hr2
    exact ⟨A1_o,c1_o,A2_o,c2_o,A3_o,c3_o,rfl,(qpb.boxy (by repeat (first|(with_reducible exact Boxy.refl _)|(with_reducible refine Boxy.drew ?_)|(with_reducible refine Boxy.drewN ?_ _)|(with_reducible refine Boxy.alloc ?_ _)|((with_reducible refine Boxy.setCell ?_ ?hbs _);(case hbs=>first|(with_reducible exact .inl (by assumption))|exact .inl (by assumption)|exact .inr (by simp)|exact .inr (by simp;omega)))))).wide (by omega) (by simp;try omega),(((((((qyb.setCell (p:=⟨w.heap.size+1+1,0,none⟩) (by show w.heap.size≤w.heap.size+1+1;omega) _).setCell (p:=⟨w.heap.size+1+1,1,none⟩) (by show w.heap.size≤w.heap.size+1+1;omega) _).setCell (p:=⟨w.heap.size+1+1,2,none⟩) (by show w.heap.size≤w.heap.size+1+1;omega) _).setCell (p:=⟨w.heap.size+1+1,3,none⟩) (by show w.heap.size≤w.heap.size+1+1;omega) _).setCell (p:=⟨w.heap.size+1+1,4,none⟩) (by show w.heap.size≤w.heap.size+1+1;omega) _).setCell (p:=⟨w.heap.size+1+1,5,none⟩) (by show w.heap.size≤w.heap.size+1+1;omega) _).setCell (p:=⟨w.heap.size+1+1,6,none⟩) (by show w.heap.size≤w.heap.size+1+1;omega) _)⟩
   ·have HR:Hid (res=(⟨d1,f1,ss1,d2,f2,sn,st++[(PStep.mk K F L T I bs as_)]⟩,true)):=by unfold Hid;rw [hr];exact if_pos ⟨⟨rfl,hne⟩,rfl⟩
    clear hr h40 hne
    go_enter Tryz.func183,Tryz.ntmps183
    go_wp2_with fail
    generalize e_:(World.alloc _ _)=w1
    symm at e_
    have qna:=hkq e_ (blk_alloc (blk_alloc (bnk w.heap.size) _) _)
    have qoa:=hkq e_ (blk_alloc (bnk (w.heap.size+1)) _)
    have qpa:=hkq e_ (bnk (w.heap.size+1+1))
    have qea:Below w.heap.size w w1:=by rw [e_];exact bel
    have qab:=qea.size
    have quc:w.heap.size+3≤w1.heap.size:=(by rw [e_];simp;try omega)
    clear e_
    refine (unhide HCP _ qea).mono ?_
    rintro e w2 ⟨A1_o,c1_o,A2_o,c2_o,A3_o,c3_o,rfl,hon,qda⟩
    have qga:=blk_next qna qda
    have qqa:=blk_next qoa qda
    have qra:=blk_next qpa qda
    have qbb:Below w.heap.size w w2:=qea.trans (Below.mono qda qab)
    have qrb:=qbb.size
    have qvc:w1.heap.size≤w2.heap.size:=qda.size
    clear qna qoa qpa qea qab qda
    have qsa:=hon
    clear hon
    obtain ⟨qdb,qeb,qfb,qgb,qhb,qib,qjb,qkb⟩:=blk7 qga
    go_wp2_with fail
    clear qdb qeb qfb qgb qhb qib qjb qkb
    generalize e_:(World.alloc _ _)=w3
    symm at e_
    have qta:=hkq e_ (blk_alloc qga _)
    have qua:=hkq e_ (blk_alloc qqa _)
    have qva:=hkq e_ (blk_alloc qra _)
    have qwa:=hkq e_ (bnk w2.heap.size)
    have qha:=(qsa.alloc (.cells #[.int .i64 d1,.int .i64 f1,.slice A1_o ss1.length c1_o,.int .i64 d2,.int .i64 f2,.slice A2_o ss2.length c2_o,.slice A3_o st.length c3_o] 29))
    rw [← e_] at qha
    have qfa:Below w.heap.size w w3:=by rw [e_];exact bel
    have qcb:=qfa.size
    have qwc:w2.heap.size+1≤w3.heap.size:=(by rw [e_];simp;try omega)
    clear e_
    clear qga qqa qra qsa qbb qrb
    refine (unhide HOK _ qfa).mono ?_
    rintro e w4 ⟨rfl,qca⟩
    have qka:=blk_next qta qca
    have qlb:=blk_next qua qca
    have qaa:=blk_next qva qca
    have qba:=blk_next qwa qca
    have qmb:=qha.below qca
    have qja:Below w.heap.size w w4:=qfa.trans (Below.mono qca qcb)
    have qsb:=qja.size
    have qxc:w3.heap.size≤w4.heap.size:=qca.size
    clear qta qua qva qwa qha qfa qcb qca
    obtain ⟨qdb,qeb,qfb,qgb,qhb,qib,qjb,qkb⟩:=blk7 qka
    obtain ⟨qkc,qlc,qmc,qnc,qoc,qpc,qqc,qrc⟩:=blk7 qlb
    go_wp2_with fail
    refine (unhide HSO _ qja).mono ?_
    rintro e w5 ⟨A_n,c_n,rfl,hon,qma⟩
    clear qdb qeb qfb qgb qhb qib qjb qkb qkc qlc qmc qnc qoc qpc qqc qrc
    have qnb:=blk_next qka qma
    have qqb:=blk_next qlb qma
    have qob:=blk_next qaa qma
    have qia:=blk_next qba qma
    have qub:=qmb.below qma
    have qxb:Below w.heap.size w w5:=qja.trans (Below.mono qma qsb)
    have qyc:=qxb.size
    have qld:w4.heap.size≤w5.heap.size:=qma.size
    clear qka qlb qaa qba qmb qja qsb qma
    have qvb:=hon
    clear hon
    obtain ⟨qzb,qac,qbc,qcc,qdc,qec,qfc,qgc⟩:=blk7 qia
    have hfz0_o:=(blk_cells qia 0).2
    have hfz1_o:=(blk_cells qia 1).2
    have hfz2_o:=(blk_cells qia 2).2
    have hfz3_o:=(blk_cells qia 3).2
    have hfz4_o:=(blk_cells qia 4).2
    have hfz5_o:=(blk_cells qia 5).2
    have hfz6_o:=(blk_cells qia 6).2
    go_upto_region 8 with fail
    clear qzb qac qbc qcc qdc qec qfc qgc hfz0_o hfz1_o hfz2_o hfz3_o hfz4_o hfz5_o hfz6_o
    have qhc:=boxAt_of qnb
    have qic:=boxAt_of qob
    have qjc:=boxAt_of qia
    have hgl_d:=blk_lt qnb
    have hgl_s:=blk_lt qqb
    have hgl_r:=blk_lt qob
    have hgl_o:=blk_lt qia
    have qsc:=(blk_alloc (blk_other (p:=⟨w2.heap.size,5,none⟩) (blk_other (p:=⟨w2.heap.size,4,none⟩) (blk_other (p:=⟨w2.heap.size,3,none⟩) qnb (by show _≠w2.heap.size;omega) (.int .i64 d2)) (by show _≠w2.heap.size;omega) (.int .i64 f2)) (by show _≠w2.heap.size;omega) (.slice A_n sn.length c_n)) (.cells #[.int .i64 d2,.int .i64 f2,.slice A_n sn.length c_n] 26))
    have qzc:=(blk_alloc (blk_other (p:=⟨w2.heap.size,5,none⟩) (blk_other (p:=⟨w2.heap.size,4,none⟩) (blk_other (p:=⟨w2.heap.size,3,none⟩) qqb (by show _≠w2.heap.size;omega) (.int .i64 d2)) (by show _≠w2.heap.size;omega) (.int .i64 f2)) (by show _≠w2.heap.size;omega) (.slice A_n sn.length c_n)) (.cells #[.int .i64 d2,.int .i64 f2,.slice A_n sn.length c_n] 26))
    have qxa:=(blk_alloc (blk_other (p:=⟨w2.heap.size,5,none⟩) (blk_other (p:=⟨w2.heap.size,4,none⟩) (blk_other (p:=⟨w2.heap.size,3,none⟩) qob (by show _≠w2.heap.size;omega) (.int .i64 d2)) (by show _≠w2.heap.size;omega) (.int .i64 f2)) (by show _≠w2.heap.size;omega) (.slice A_n sn.length c_n)) (.cells #[.int .i64 d2,.int .i64 f2,.slice A_n sn.length c_n] 26))
    have qla:((((w5.setCell ⟨w2.heap.size,3,none⟩ (.int .i64 d2)).setCell ⟨w2.heap.size,4,none⟩ (.int .i64 f2)).setCell ⟨w2.heap.size,5,none⟩ (.slice A_n sn.length c_n)).alloc (.cells #[.int .i64 d2,.int .i64 f2,.slice A_n sn.length c_n] 26)).heap[w2.heap.size]?=some (.cells #[.int .i64 d1,.int .i64 f1,.slice A1_o ss1.length c1_o,.int .i64 d2,.int .i64 f2,.slice A_n sn.length c_n,.slice A3_o st.length c3_o] 29 (0,0)):=by simpa using (blk_alloc (blk_set (blk_set (blk_set qia 3 (.int .i64 d2)) 4 (.int .i64 f2)) 5 (.slice A_n sn.length c_n)) (.cells #[.int .i64 d2,.int .i64 f2,.slice A_n sn.length c_n] 26))
    have qtc:=(blk_new_at (((w5.setCell ⟨w2.heap.size,3,none⟩ (.int .i64 d2)).setCell ⟨w2.heap.size,4,none⟩ (.int .i64 f2)).setCell ⟨w2.heap.size,5,none⟩ (.slice A_n sn.length c_n)) (.cells #[.int .i64 d2,.int .i64 f2,.slice A_n sn.length c_n] 26) (k:=w5.heap.size) (by simp))
    have qpb:=(qub.boxy (w':=((((w5.setCell ⟨w2.heap.size,3,none⟩ (.int .i64 d2)).setCell ⟨w2.heap.size,4,none⟩ (.int .i64 f2)).setCell ⟨w2.heap.size,5,none⟩ (.slice A_n sn.length c_n)).alloc (.cells #[.int .i64 d2,.int .i64 f2,.slice A_n sn.length c_n] 26))) (by repeat (first|(with_reducible exact Boxy.refl _)|(with_reducible refine Boxy.drew ?_)|(with_reducible refine Boxy.drewN ?_ _)|(with_reducible refine Boxy.alloc ?_ _)|((with_reducible refine Boxy.setCell ?_ ?hbs _);(case hbs=>first|(with_reducible exact .inl (by assumption))|exact .inl (by assumption)|exact .inr (by simp)|exact .inr (by simp;omega))))))
    have qwb:=(qvb.boxy (w':=((((w5.setCell ⟨w2.heap.size,3,none⟩ (.int .i64 d2)).setCell ⟨w2.heap.size,4,none⟩ (.int .i64 f2)).setCell ⟨w2.heap.size,5,none⟩ (.slice A_n sn.length c_n)).alloc (.cells #[.int .i64 d2,.int .i64 f2,.slice A_n sn.length c_n] 26))) (by repeat (first|(with_reducible exact Boxy.refl _)|(with_reducible refine Boxy.drew ?_)|(with_reducible refine Boxy.drewN ?_ _)|(with_reducible refine Boxy.alloc ?_ _)|((with_reducible refine Boxy.setCell ?_ ?hbs _);(case hbs=>first|(with_reducible exact .inl (by assumption))|exact .inl (by assumption)|exact .inr (by simp)|exact .inr (by simp;omega))))))
    have qyb:Below w.heap.size w ((((w5.setCell ⟨w2.heap.size,3,none⟩ (.int .i64 d2)).setCell ⟨w2.heap.size,4,none⟩ (.int .i64 f2)).setCell ⟨w2.heap.size,5,none⟩ (.slice A_n sn.length c_n)).alloc (.cells #[.int .i64 d2,.int .i64 f2,.slice A_n sn.length c_n] 26)):=bel
    have qmd:=qyb.size
    have qnd:w5.heap.size+1≤((((w5.setCell ⟨w2.heap.size,3,none⟩ (.int .i64 d2)).setCell ⟨w2.heap.size,4,none⟩ (.int .i64 f2)).setCell ⟨w2.heap.size,5,none⟩ (.slice A_n sn.length c_n)).alloc (.cells #[.int .i64 d2,.int .i64 f2,.slice A_n sn.length c_n] 26)).heap.size:=(by simp;try omega)
    clear qhc qic qjc
    generalize ((((w5.setCell ⟨w2.heap.size,3,none⟩ (.int .i64 d2)).setCell ⟨w2.heap.size,4,none⟩ (.int .i64 f2)).setCell ⟨w2.heap.size,5,none⟩ (.slice A_n sn.length c_n)).alloc (.cells #[.int .i64 d2,.int .i64 f2,.slice A_n sn.length c_n] 26))=w6 at *
    clear qnb qqb qob qia qub qvb qxb qyc
    obtain ⟨qkc,qlc,qmc,qnc,qoc,qpc,qqc,qrc⟩:=blk7 qzc
    obtain ⟨qzb,qac,qbc,qcc,qdc,qec,qfc,qgc⟩:=blk7 qla
    go_wp2_with (at_builtin;(have hoE:=qpb.o3.row.alloc (.cells #[.int .i64 K,.int .i64 F,.int .i64 L,.int .i64 T,.int .i64 I,.string bs,.string as_] 167));(have hrE:Reads (w6.alloc (.cells #[.int .i64 K,.int .i64 F,.int .i64 L,.int .i64 T,.int .i64 I,.string bs,.string as_] 167)) (w6.heap.size+1) 7 (some ⟨w6.heap.size,0,none⟩) 1 (stepCells (PStep.mk K F L T I bs as_)):=reads_new w6 _ _ 1 7 rfl);refine wpList_append_any _ rfl (.tmp 34) (.tmp 36) _ rfl w1.heap.size 167 i0 _ 7 72 Tryz.underlying27 hi0 hz0 hz1 hz2 rfl (by omega) (.slice A3_o st.length c3_o) st.length (st.flatMap stepCells) rfl ?_ (w6.heap.size+1) (some ⟨w6.heap.size,0,none⟩) 1 1 (stepCells (PStep.mk K F L T I bs as_)) rfl ?_ (stepCells_one1 _) ?_ ?_ ?_ ?_;(first|exact hoE|exact ⟨hoE.1,hoE.2⟩);(first|exact hrE|exact ⟨hrE.1,hrE.2⟩);(unfold maxLen;omega);omega;(simp;omega);intro v1 w90 hoa hga0 hata;(have hga:World.grownBy (w6.alloc (.cells #[.int .i64 K,.int .i64 F,.int .i64 L,.int .i64 T,.int .i64 I,.string bs,.string as_] 167)) w90 (Value.slice A3_o st.length c3_o).ownBlock:=(by first|exact hga0|exact ⟨hga0.os,hga0.tape,hga0.output,hga0.size,hga0.block⟩));obtain ⟨A9,c9,rfl⟩:=own_slice hoa;(have qad:=blk_markedk (blk_alloc qsc (.cells #[.int .i64 K,.int .i64 F,.int .i64 L,.int .i64 T,.int .i64 I,.string bs,.string as_] 167)) hga hoE (by decide));(have qya:=blk_markedk (blk_alloc qxa (.cells #[.int .i64 K,.int .i64 F,.int .i64 L,.int .i64 T,.int .i64 I,.string bs,.string as_] 167)) hga hoE (by decide));(have qza:=blk_markedk (blk_alloc qla (.cells #[.int .i64 K,.int .i64 F,.int .i64 L,.int .i64 T,.int .i64 I,.string bs,.string as_] 167)) hga hoE (by decide));(have qtb:=blk_markedk (blk_alloc qtc (.cells #[.int .i64 K,.int .i64 F,.int .i64 L,.int .i64 T,.int .i64 I,.string bs,.string as_] 167)) hga hoE (by decide));(have qbd:=own_grown (qwb.row.alloc (.cells #[.int .i64 K,.int .i64 F,.int .i64 L,.int .i64 T,.int .i64 I,.string bs,.string as_] 167)) hga (own_ne_type (qwb.row.alloc (.cells #[.int .i64 K,.int .i64 F,.int .i64 L,.int .i64 T,.int .i64 I,.string bs,.string as_] 167)) hoE (by decide)));(have qcd:=own_grown (qpb.o1.row.alloc (.cells #[.int .i64 K,.int .i64 F,.int .i64 L,.int .i64 T,.int .i64 I,.string bs,.string as_] 167)) hga (own_ne_type (qpb.o1.row.alloc (.cells #[.int .i64 K,.int .i64 F,.int .i64 L,.int .i64 T,.int .i64 I,.string bs,.string as_] 167)) hoE (by decide)));(have qpd:Below w.heap.size w w90:=(qyb.alloc (by first|exact Nat.le_refl _|(simp;done)|omega|(simp;omega)|exact (‹_∧_∧Below _ _ _›).2.2.size) (.cells #[.int .i64 K,.int .i64 F,.int .i64 L,.int .i64 T,.int .i64 I,.string bs,.string as_] 167)).trans (grown_below hga (fun k hk=>by have:=(hoE.lt k hk).1;omega) (by simp;omega)));(have qqd:w6.heap.size≤w90.heap.size:=(by have:=hga.size;simp at this;omega));obtain ⟨hy0_r,hy1_r,hy2_r,hy3_r,hy4_r,hy5_r,hy6_r,hyl_r⟩:=blk7 qya;have hz0_r:=(blk_cells qya 0).2;have hz1_r:=(blk_cells qya 1).2;have hz2_r:=(blk_cells qya 2).2;have hz3_r:=(blk_cells qya 3).2;have hz4_r:=(blk_cells qya 4).2;have hz5_r:=(blk_cells qya 5).2;have hz6_r:=(blk_cells qya 6).2;obtain ⟨hy0_o,hy1_o,hy2_o,hy3_o,hy4_o,hy5_o,hy6_o,hyl_o⟩:=blk7 qza;have hz0_o:=(blk_cells qza 0).2;have hz1_o:=(blk_cells qza 1).2;have hz2_o:=(blk_cells qza 2).2;have hz3_o:=(blk_cells qza 3).2;have hz4_o:=(blk_cells qza 4).2;have hz5_o:=(blk_cells qza 5).2;have hz6_o:=(blk_cells qza 6).2;obtain ⟨hy0_n,hy1_n,hy2_n,hyl_n⟩:=blk3 qtb;have hz0_n:=(blk_cells qtb 0).2;have hz1_n:=(blk_cells qtb 1).2;have hz2_n:=(blk_cells qtb 2).2;clear hga hga0 hrE hata qkc qlc qmc qnc qoc qpc qqc qrc qzb qac qbc qcc qdc qec qfc qgc)
    refine bodyPost_ret (v:=.tuple #[.agg #[.int .i64 d1,.int .i64 f1,.slice A1_o ss1.length c1_o,.int .i64 d2,.int .i64 f2,.slice A_n sn.length c_n,.slice A9 (st.length+1) c9],.bool true]) (by simp [results,Tryz.results183,go_sem, *]) rfl ?_
    have qhc:=boxAt_of qad
    have qic:=boxAt_of qya
    have qjc:=boxAt_of qza
    have qod:=boxAt_of qtb
    have hr2:=HR.out;subst hr2
    have hlen:(st++[(PStep.mk K F L T I bs as_)]).length=st.length+1:=by simp
    have hoa2:w90.ownsRow w1.heap.size 167 7 (.slice A9 (st++[(PStep.mk K F L T I bs as_)]).length c9) (st++[(PStep.mk K F L T I bs as_)]).length ((st++[(PStep.mk K F L T I bs as_)]).flatMap stepCells):=by rw [hlen,flat_snoc];exact hoa
    show ∃ B1 e1 B2 e2 B3 e3,_=_∧_∧_
    refine ⟨A1_o,c1_o,A_n,c_n,A9,c9,?_,⟨((OwnS.of (hi:=w90.heap.size) qcd (Nat.le_refl _)).boxy (by repeat (first|(with_reducible exact Boxy.refl _)|(with_reducible refine Boxy.drew ?_)|(with_reducible refine Boxy.drewN ?_ _)|(with_reducible refine Boxy.alloc ?_ _)|((with_reducible refine Boxy.setCell ?_ ?hbs _);(case hbs=>first|(with_reducible exact .inl (by assumption))|exact .inl (by assumption)|exact .inr (by simp)|exact .inr (by simp;omega)))))).wide (by omega) (by simp),((OwnS.of (hi:=w90.heap.size) qbd (Nat.le_refl _)).boxy (by repeat (first|(with_reducible exact Boxy.refl _)|(with_reducible refine Boxy.drew ?_)|(with_reducible refine Boxy.drewN ?_ _)|(with_reducible refine Boxy.alloc ?_ _)|((with_reducible refine Boxy.setCell ?_ ?hbs _);(case hbs=>first|(with_reducible exact .inl (by assumption))|exact .inl (by assumption)|exact .inr (by simp)|exact .inr (by simp;omega)))))).wide (by omega) (by simp),((OwnSt.of (hi:=w90.heap.size) hoa2 (Nat.le_refl _)).boxy (by repeat (first|(with_reducible exact Boxy.refl _)|(with_reducible refine Boxy.drew ?_)|(with_reducible refine Boxy.drewN ?_ _)|(with_reducible refine Boxy.alloc ?_ _)|((with_reducible refine Boxy.setCell ?_ ?hbs _);(case hbs=>first|(with_reducible exact .inl (by assumption))|exact .inl (by assumption)|exact .inr (by simp)|exact .inr (by simp;omega)))))).wide (by omega) (by simp),?_⟩,?_⟩
    ·show _=Ending.returned (.tuple #[.agg #[.int .i64 d1,.int .i64 f1,.slice A1_o ss1.length c1_o,.int .i64 d2,.int .i64 f2,.slice A_n sn.length c_n,.slice A9 (st++[(PStep.mk K F L T I bs as_)]).length c9],.bool true])
     rw [hlen]
    ·exact fun k hk hk2=>by have a:=qpb.o1.top k hk;have b:=(qwb.row.lt k hk2).1;omega
    ·exact bel
  ·have hne:st.length=40:=by simp at he;omega
   have HR:Hid (res=((PDraft.mk d1 f1 ss1 d2 f2 ss2 st),false)):=by unfold Hid;rw [hr];exact if_neg (by simp [hne])
   have HE:=Lib.hid he
   clear hr h40 hne he
   go_enter Tryz.func183,Tryz.ntmps183
   go_wp2_with fail
   generalize e_:(World.alloc _ _)=w1
   symm at e_
   have qna:=hkq e_ (blk_alloc (blk_alloc (bnk w.heap.size) _) _)
   have qoa:=hkq e_ (blk_alloc (bnk (w.heap.size+1)) _)
   have qpa:=hkq e_ (bnk (w.heap.size+1+1))
   have qea:Below w.heap.size w w1:=by rw [e_];exact bel
   have qab:=qea.size
   have quc:w.heap.size+3≤w1.heap.size:=(by rw [e_];simp;try omega)
   clear e_
   refine (unhide HCP _ qea).mono ?_
   rintro e w2 ⟨A1_o,c1_o,A2_o,c2_o,A3_o,c3_o,rfl,hon,qda⟩
   have qga:=blk_next qna qda
   have qqa:=blk_next qoa qda
   have qra:=blk_next qpa qda
   have qbb:Below w.heap.size w w2:=qea.trans (Below.mono qda qab)
   have qrb:=qbb.size
   have qvc:w1.heap.size≤w2.heap.size:=qda.size
   clear qna qoa qpa qea qab qda
   have qsa:=hon
   clear hon
   obtain ⟨qdb,qeb,qfb,qgb,qhb,qib,qjb,qkb⟩:=blk7 qga
   go_wp2_with fail
   clear qdb qeb qfb qgb qhb qib qjb qkb
   generalize e_:(World.alloc _ _)=w3
   symm at e_
   have qta:=hkq e_ (blk_alloc qga _)
   have qua:=hkq e_ (blk_alloc qqa _)
   have qva:=hkq e_ (blk_alloc qra _)
   have qwa:=hkq e_ (bnk w2.heap.size)
   have qha:=(qsa.alloc (.cells #[.int .i64 d1,.int .i64 f1,.slice A1_o ss1.length c1_o,.int .i64 d2,.int .i64 f2,.slice A2_o ss2.length c2_o,.slice A3_o st.length c3_o] 29))
   rw [← e_] at qha
   have qfa:Below w.heap.size w w3:=by rw [e_];exact bel
   have qcb:=qfa.size
   have qwc:w2.heap.size+1≤w3.heap.size:=(by rw [e_];simp;try omega)
   clear e_
   clear qga qqa qra qsa qbb qrb
   refine (unhide HOK _ qfa).mono ?_
   rintro e w4 ⟨rfl,qca⟩
   have qka:=blk_next qta qca
   have qlb:=blk_next qua qca
   have qaa:=blk_next qva qca
   have qba:=blk_next qwa qca
   have qmb:=qha.below qca
   have qja:Below w.heap.size w w4:=qfa.trans (Below.mono qca qcb)
   have qsb:=qja.size
   have qxc:w3.heap.size≤w4.heap.size:=qca.size
   clear qta qua qva qwa qha qfa qcb qca
   obtain ⟨qdb,qeb,qfb,qgb,qhb,qib,qjb,qkb⟩:=blk7 qka
   have he:=HE.out
   go_upto_region 3 with fail
   clear he
   clear qdb qeb qfb qgb qhb qib qjb qkb
   obtain ⟨qdd,qed,qfd,qgd,qhd,qid,qjd,qkd⟩:=blk7 qaa
   have hfz0_r:=(blk_cells qaa 0).2
   have hfz1_r:=(blk_cells qaa 1).2
   have hfz2_r:=(blk_cells qaa 2).2
   have hfz3_r:=(blk_cells qaa 3).2
   have hfz4_r:=(blk_cells qaa 4).2
   have hfz5_r:=(blk_cells qaa 5).2
   have hfz6_r:=(blk_cells qaa 6).2
   obtain ⟨qzb,qac,qbc,qcc,qdc,qec,qfc,qgc⟩:=blk7 qba
   have hfz0_o:=(blk_cells qba 0).2
   have hfz1_o:=(blk_cells qba 1).2
   have hfz2_o:=(blk_cells qba 2).2
   have hfz3_o:=(blk_cells qba 3).2
   have hfz4_o:=(blk_cells qba 4).2
   have hfz5_o:=(blk_cells qba 5).2
   have hfz6_o:=(blk_cells qba 6).2
   go_wp2
   refine bodyPost_ret (v:=.tuple #[.agg #[.int .i64 d1,.int .i64 f1,.slice A1_o ss1.length c1_o,.int .i64 d2,.int .i64 f2,.slice A2_o ss2.length c2_o,.slice A3_o st.length c3_o],.bool false]) (by simp [results,Tryz.results183,go_sem, *]) rfl ?_
   have qhc:=boxAt_of qka
   have qic:=boxAt_of qaa
   have qjc:=boxAt_of qba
   have hr2:=HR.out;subst hr2
   exact ⟨A1_o,c1_o,A2_o,c2_o,A3_o,c3_o,rfl,(qmb.boxy (by repeat (first|(with_reducible exact Boxy.refl _)|(with_reducible refine Boxy.drew ?_)|(with_reducible refine Boxy.drewN ?_ _)|(with_reducible refine Boxy.alloc ?_ _)|((with_reducible refine Boxy.setCell ?_ ?hbs _);(case hbs=>first|(with_reducible exact .inl (by assumption))|exact .inl (by assumption)|exact .inr (by simp)|exact .inr (by simp;omega)))))).wide (by omega) (by simp;try omega),(((((((qja.setCell (p:=⟨w.heap.size+1+1,0,none⟩) (by show w.heap.size≤w.heap.size+1+1;omega) _).setCell (p:=⟨w.heap.size+1+1,1,none⟩) (by show w.heap.size≤w.heap.size+1+1;omega) _).setCell (p:=⟨w.heap.size+1+1,2,none⟩) (by show w.heap.size≤w.heap.size+1+1;omega) _).setCell (p:=⟨w.heap.size+1+1,3,none⟩) (by show w.heap.size≤w.heap.size+1+1;omega) _).setCell (p:=⟨w.heap.size+1+1,4,none⟩) (by show w.heap.size≤w.heap.size+1+1;omega) _).setCell (p:=⟨w.heap.size+1+1,5,none⟩) (by show w.heap.size≤w.heap.size+1+1;omega) _).setCell (p:=⟨w.heap.size+1+1,6,none⟩) (by show w.heap.size≤w.heap.size+1+1;omega) _)⟩
end Go.Proofs.YtlimlolciekimaaGreatDoor
