/- Contracts of the program's and the reference's functions (Draft6i, Draft7i). -/
import Derived.Test.YtlimlolciekimaaGreatDoorRows
import Derived.Test.YtlimlolciekimaaGreatDoorQUf
namespace Go.Proofs.YtlimlolciekimaaGreatDoor
set_option maxHeartbeats 1600000
open Go.ChangeShapes Go.WideShapes Go.ChangeAt Go.RowKit
set_option linter.unusedVariables false
set_option maxRecDepth 10000
set_option maxHeartbeats 8000000 in
theorem i_DoStep (D:PDraft) (s:PStep) (B:Nat) (A1 A2 A3:Option Addr) (c1 c2 c3:Nat) (w:World) (hS:RdDraft w B A1 A2 A3 D) (hB:B≤w.heap.size) (hbz:s.b.size≤16777216) (haz:s.a.size≤16777216) :
  Calls Tryz.prog 193 #[.agg (draftV D A1 c1 A2 c2 A3 c3),.agg #[.int .i64 s.K,.int .i64 s.F,.int .i64 s.L,.int .i64 s.T,.int .i64 s.I,.string s.b,.string s.a]] w (UDraftB (doRes D s).1.d1 (doRes D s).1.f1 (doRes D s).1.ss1 (doRes D s).1.d2 (doRes D s).1.f2 (doRes D s).1.ss2 (doRes D s).1.st (doRes D s).2 w):=by
 obtain ⟨d1,f1,ss1,d2,f2,ss2,st⟩:=D
 obtain ⟨K,F,L,T,I,bs,as_⟩:=s
 have hD:=hS
 obtain ⟨h1,h2,h3⟩:=hS
 simp only at h1 h2 h3 hbz haz
 have hn1:=h1.nb
 have hn2:=h2.nb
 have hn3:=h3.nb
 have hok:=fun (W:World) (hW:Below w.heap.size w W)=>i_DraftOk (PDraft.mk d1 f1 ss1 d2 f2 ss2 st) B A1 A2 A3 c1 c2 c3 W (hD.below (hW.mono hB)) (Nat.le_trans hB hW.size)
 have hso:=fun (W:World) (hW:Below w.heap.size w W)=>(i_StepOn d2 f2 B A2 _ c2 ss2 K F L T I bs as_ W (h2.below (hW.mono hB)) (Nat.le_trans hB hW.size) hbz haz).mono fun _ _ h=>UCardB.of h
 have hcp:=fun (W:World) (hW:Below w.heap.size w W)=>u_draftCopied d1 f1 ss1 d2 f2 ss2 st B A1 A2 A3 c1 c2 c3 W (hD.below (hW.mono hB)) (Nat.le_trans hB hW.size)
 have hr:doRes (PDraft.mk d1 f1 ss1 d2 f2 ss2 st) (PStep.mk K F L T I bs as_)=if (draftOk (PDraft.mk d1 f1 ss1 d2 f2 ss2 st)=true∧st.length≠40)∧(stepRes true d2 f2 ss2 K F L T I bs as_).2=true then (⟨d1,f1,ss1,d2,f2,(stepRes true d2 f2 ss2 K F L T I bs as_).1,st++[(PStep.mk K F L T I bs as_)]⟩,true) else ((PDraft.mk d1 f1 ss1 d2 f2 ss2 st),false):=rfl
 have h40:=fun (h:draftOk (PDraft.mk d1 f1 ss1 d2 f2 ss2 st)=true)=>draftOk_st h
 simp only at h40
 unfold draftV
 simp only
 generalize draftOk (PDraft.mk d1 f1 ss1 d2 f2 ss2 st)=dk at hok hr h40
 generalize (stepRes true d2 f2 ss2 K F L T I bs as_).1=sn at hso hr
 generalize (stepRes true d2 f2 ss2 K F L T I bs as_).2=sb at hso hr
 generalize doRes (PDraft.mk d1 f1 ss1 d2 f2 ss2 st) (PStep.mk K F L T I bs as_)=res at hr ⊢
 have HOK:=hide hok
 have HSO:=hide hso
 have HCP:=hide hcp
 clear hok hso hcp hD
 obtain ⟨i0,hi0,hz0,hz1,hz2⟩:=info_parts info_stepCells
 cases dk
 ·have HR:Hid (res=((PDraft.mk d1 f1 ss1 d2 f2 ss2 st),false)):=by unfold Hid;rw [hr];exact if_neg (by simp)
  clear hr h40
  go_enter Tryz.func193,Tryz.ntmps193
  go_wp2_with fail
  generalize e_:(World.alloc _ _)=w1
  symm at e_
  have qja:=hkq e_ (blk_alloc (blk_alloc (bnk w.heap.size) _) _)
  have qgb:=hkq e_ (blk_alloc (bnk (w.heap.size+1)) _)
  have qka:=hkq e_ (bnk (w.heap.size+1+1))
  have qea:Below w.heap.size w w1:=by rw [e_];exact bel
  have qya:=qea.size
  have qwb:w.heap.size+3≤w1.heap.size:=(by rw [e_];simp;try omega)
  clear e_
  refine (unhide HSO _ qea).mono ?_
  rintro e w2 ⟨A_n,c_n,rfl,hon,qca⟩
  have qfa:=blk_next qja qca
  have qhb:=blk_next qgb qca
  have qla:=blk_next qka qca
  have qga:Below w.heap.size w w2:=qea.trans (Below.mono qca qya)
  have qab:=qga.size
  have qxb:w1.heap.size≤w2.heap.size:=qca.size
  clear qja qgb qka qea qya qca
  have qib:=hon
  clear hon
  obtain ⟨qma,qna,qoa,qpa,qqa,qra,qsa,qta⟩:=blk7 qfa
  go_wp2_with fail
  clear qma qna qoa qpa qqa qra qsa qta
  generalize e_:(World.alloc _ _)=w3
  symm at e_
  have qua:=hkq e_ (blk_alloc qfa _)
  have qjb:=hkq e_ (blk_alloc qhb _)
  have qba:=hkq e_ (blk_alloc qla _)
  have qbb:=hkq e_ (bnk w2.heap.size)
  have qwa:=(qib.alloc (.cells #[.int .i64 d2,.int .i64 f2,.slice A_n sn.length c_n] 26))
  rw [← e_] at qwa
  have qha:Below w.heap.size w w3:=by rw [e_];exact bel
  have qfb:=qha.size
  have qyb:w2.heap.size+1≤w3.heap.size:=(by rw [e_];simp;try omega)
  clear e_
  clear qfa qhb qla qib qga qab
  refine (unhide HOK _ qha).mono ?_
  rintro e w4 ⟨rfl,qda⟩
  have qxa:=blk_next qua qda
  have qkb:=blk_next qjb qda
  have qcb:=blk_next qba qda
  have qdb:=blk_next qbb qda
  have qeb:=qwa.below qda
  have qva:Below w.heap.size w w4:=qha.trans (Below.mono qda qfb)
  have qlb:=qva.size
  have qfc:w3.heap.size≤w4.heap.size:=qda.size
  clear qua qjb qba qbb qwa qha qfb qda
  obtain ⟨qma,qna,qoa,qpa,qqa,qra,qsa,qta⟩:=blk7 qxa
  go_wp2_with fail
  refine (unhide HCP _ qva).mono ?_
  rintro e w5 ⟨A1_o,c1_o,A2_o,c2_o,A3_o,c3_o,rfl,hon,qia⟩
  clear qma qna qoa qpa qqa qra qsa qta
  have qqb:=blk_next qxa qia
  have qzb:=blk_next qkb qia
  have qaa:=blk_next qcb qia
  have qmb:=blk_next qdb qia
  have qrb:=qeb.below qia
  have qnb:Below w.heap.size w w5:=qva.trans (Below.mono qia qlb)
  have qbc:=qnb.size
  have qgc:w4.heap.size≤w5.heap.size:=qia.size
  clear qxa qkb qcb qdb qeb qva qlb qia
  have qza:=hon
  clear hon
  obtain ⟨qhc,qic,qjc,qkc,qlc,qmc,qnc,qoc⟩:=blk7 qaa
  have hfz0_r:=(blk_cells qaa 0).2
  have hfz1_r:=(blk_cells qaa 1).2
  have hfz2_r:=(blk_cells qaa 2).2
  have hfz3_r:=(blk_cells qaa 3).2
  have hfz4_r:=(blk_cells qaa 4).2
  have hfz5_r:=(blk_cells qaa 5).2
  have hfz6_r:=(blk_cells qaa 6).2
  go_wp2
  refine bodyPost_ret (v:=.tuple #[.agg #[.int .i64 d1,.int .i64 f1,.slice A1_o ss1.length c1_o,.int .i64 d2,.int .i64 f2,.slice A2_o ss2.length c2_o,.slice A3_o st.length c3_o],.bool false]) (by simp [results,Tryz.results193,go_sem, *]) rfl ?_
  have qcc:=boxAt_of qqb
  have qdc:=boxAt_of qaa
  have qqc:=boxAt_of qmb
  have hr2:=HR.out;subst hr2
  exact ⟨A1_o,c1_o,A2_o,c2_o,A3_o,c3_o,rfl,(qza.boxy (by repeat (first|(with_reducible exact Boxy.refl _)|(with_reducible refine Boxy.drew ?_)|(with_reducible refine Boxy.drewN ?_ _)|(with_reducible refine Boxy.alloc ?_ _)|((with_reducible refine Boxy.setCell ?_ ?hbs _);(case hbs=>first|(with_reducible exact .inl (by assumption))|exact .inl (by assumption)|exact .inr (by simp)|exact .inr (by simp;omega)))))).wide (by omega) (by simp;try omega),(((((((qnb.setCell (p:=⟨w.heap.size+1+1,0,none⟩) (by show w.heap.size≤w.heap.size+1+1;omega) _).setCell (p:=⟨w.heap.size+1+1,1,none⟩) (by show w.heap.size≤w.heap.size+1+1;omega) _).setCell (p:=⟨w.heap.size+1+1,2,none⟩) (by show w.heap.size≤w.heap.size+1+1;omega) _).setCell (p:=⟨w.heap.size+1+1,3,none⟩) (by show w.heap.size≤w.heap.size+1+1;omega) _).setCell (p:=⟨w.heap.size+1+1,4,none⟩) (by show w.heap.size≤w.heap.size+1+1;omega) _).setCell (p:=⟨w.heap.size+1+1,5,none⟩) (by show w.heap.size≤w.heap.size+1+1;omega) _).setCell (p:=⟨w.heap.size+1+1,6,none⟩) (by show w.heap.size≤w.heap.size+1+1;omega) _)⟩
 ·have h4:=h40 rfl
  cases he:((st.length:Int)==40)
  ·have hne:st.length≠40:=by intro h;rw [h] at he;simp at he
   cases sb
   ·have HR:Hid (res=((PDraft.mk d1 f1 ss1 d2 f2 ss2 st),false)):=by unfold Hid;rw [hr];exact if_neg (by simp)
    clear hr h40 hne
    go_enter Tryz.func193,Tryz.ntmps193
    go_wp2_with fail
    generalize e_:(World.alloc _ _)=w1
    symm at e_
    have qja:=hkq e_ (blk_alloc (blk_alloc (bnk w.heap.size) _) _)
    have qgb:=hkq e_ (blk_alloc (bnk (w.heap.size+1)) _)
    have qka:=hkq e_ (bnk (w.heap.size+1+1))
    have qea:Below w.heap.size w w1:=by rw [e_];exact bel
    have qya:=qea.size
    have qwb:w.heap.size+3≤w1.heap.size:=(by rw [e_];simp;try omega)
    clear e_
    refine (unhide HSO _ qea).mono ?_
    rintro e w2 ⟨A_n,c_n,rfl,hon,qca⟩
    have qfa:=blk_next qja qca
    have qhb:=blk_next qgb qca
    have qla:=blk_next qka qca
    have qga:Below w.heap.size w w2:=qea.trans (Below.mono qca qya)
    have qab:=qga.size
    have qxb:w1.heap.size≤w2.heap.size:=qca.size
    clear qja qgb qka qea qya qca
    have qib:=hon
    clear hon
    obtain ⟨qma,qna,qoa,qpa,qqa,qra,qsa,qta⟩:=blk7 qfa
    go_wp2_with fail
    clear qma qna qoa qpa qqa qra qsa qta
    generalize e_:(World.alloc _ _)=w3
    symm at e_
    have qua:=hkq e_ (blk_alloc qfa _)
    have qjb:=hkq e_ (blk_alloc qhb _)
    have qba:=hkq e_ (blk_alloc qla _)
    have qbb:=hkq e_ (bnk w2.heap.size)
    have qwa:=(qib.alloc (.cells #[.int .i64 d2,.int .i64 f2,.slice A_n sn.length c_n] 26))
    rw [← e_] at qwa
    have qha:Below w.heap.size w w3:=by rw [e_];exact bel
    have qfb:=qha.size
    have qyb:w2.heap.size+1≤w3.heap.size:=(by rw [e_];simp;try omega)
    clear e_
    clear qfa qhb qla qib qga qab
    refine (unhide HOK _ qha).mono ?_
    rintro e w4 ⟨rfl,qda⟩
    have qxa:=blk_next qua qda
    have qkb:=blk_next qjb qda
    have qcb:=blk_next qba qda
    have qdb:=blk_next qbb qda
    have qeb:=qwa.below qda
    have qva:Below w.heap.size w w4:=qha.trans (Below.mono qda qfb)
    have qlb:=qva.size
    have qfc:w3.heap.size≤w4.heap.size:=qda.size
    clear qua qjb qba qbb qwa qha qfb qda
    obtain ⟨qma,qna,qoa,qpa,qqa,qra,qsa,qta⟩:=blk7 qxa
    go_wp2_with fail
    refine (unhide HCP _ qva).mono ?_
    rintro e w5 ⟨A1_o,c1_o,A2_o,c2_o,A3_o,c3_o,rfl,hon,qia⟩
    clear qma qna qoa qpa qqa qra qsa qta
    have qqb:=blk_next qxa qia
    have qzb:=blk_next qkb qia
    have qaa:=blk_next qcb qia
    have qmb:=blk_next qdb qia
    have qrb:=qeb.below qia
    have qnb:Below w.heap.size w w5:=qva.trans (Below.mono qia qlb)
    have qbc:=qnb.size
    have qgc:w4.heap.size≤w5.heap.size:=qia.size
    clear qxa qkb qcb qdb qeb qva qlb qia
    have qza:=hon
    clear hon
    obtain ⟨qhc,qic,qjc,qkc,qlc,qmc,qnc,qoc⟩:=blk7 qaa
    have hfz0_r:=(blk_cells qaa 0).2
    have hfz1_r:=(blk_cells qaa 1).2
    have hfz2_r:=(blk_cells qaa 2).2
    have hfz3_r:=(blk_cells qaa 3).2
    have hfz4_r:=(blk_cells qaa 4).2
    have hfz5_r:=(blk_cells qaa 5).2
    have hfz6_r:=(blk_cells qaa 6).2
    go_wp2
    refine bodyPost_ret (v:=.tuple #[.agg #[.int .i64 d1,.int .i64 f1,.slice A1_o ss1.length c1_o,.int .i64 d2,.int .i64 f2,.slice A2_o ss2.length c2_o,.slice A3_o st.length c3_o],.bool false]) (by simp [results,Tryz.results193,go_sem, *]) rfl ?_
    have qcc:=boxAt_of qqb
    have qdc:=boxAt_of qaa
    have qqc:=boxAt_of qmb
    have hr2:=HR.out;subst hr2
    exact ⟨A1_o,c1_o,A2_o,c2_o,A3_o,c3_o,rfl,(qza.boxy (by repeat (first|(with_reducible exact Boxy.refl _)|(with_reducible refine Boxy.drew ?_)|(with_reducible refine Boxy.drewN ?_ _)|(with_reducible refine Boxy.alloc ?_ _)|((with_reducible refine Boxy.setCell ?_ ?hbs _);(case hbs=>first|(with_reducible exact .inl (by assumption))|exact .inl (by assumption)|exact .inr (by simp)|exact .inr (by simp;omega)))))).wide (by omega) (by simp;try omega),(((((((qnb.setCell (p:=⟨w.heap.size+1+1,0,none⟩) (by show w.heap.size≤w.heap.size+1+1;omega) _).setCell (p:=⟨w.heap.size+1+1,1,none⟩) (by show w.heap.size≤w.heap.size+1+1;omega) _).setCell (p:=⟨w.heap.size+1+1,2,none⟩) (by show w.heap.size≤w.heap.size+1+1;omega) _).setCell (p:=⟨w.heap.size+1+1,3,none⟩) (by show w.heap.size≤w.heap.size+1+1;omega) _).setCell (p:=⟨w.heap.size+1+1,4,none⟩) (by show w.heap.size≤w.heap.size+1+1;omega) _).setCell (p:=⟨w.heap.size+1+1,5,none⟩) (by show w.heap.size≤w.heap.size+1+1;omega) _).setCell (p:=⟨w.heap.size+1+1,6,none⟩) (by show w.heap.size≤w.heap.size+1+1;omega) _)⟩
   ·have HR:Hid (res=(⟨d1,f1,ss1,d2,f2,sn,st++[(PStep.mk K F L T I bs as_)]⟩,true)):=by unfold Hid;rw [hr];exact if_pos ⟨⟨rfl,hne⟩,rfl⟩
    clear hr h40 hne
    go_enter Tryz.func193,Tryz.ntmps193
    go_wp2_with fail
    generalize e_:(World.alloc _ _)=w1
    symm at e_
    have qja:=hkq e_ (blk_alloc (blk_alloc (bnk w.heap.size) _) _)
    have qgb:=hkq e_ (blk_alloc (bnk (w.heap.size+1)) _)
    have qka:=hkq e_ (bnk (w.heap.size+1+1))
    have qea:Below w.heap.size w w1:=by rw [e_];exact bel
    have qya:=qea.size
    have qwb:w.heap.size+3≤w1.heap.size:=(by rw [e_];simp;try omega)
    clear e_
    refine (unhide HSO _ qea).mono ?_
    rintro e w2 ⟨A_n,c_n,rfl,hon,qca⟩
    have qfa:=blk_next qja qca
    have qhb:=blk_next qgb qca
    have qla:=blk_next qka qca
    have qga:Below w.heap.size w w2:=qea.trans (Below.mono qca qya)
    have qab:=qga.size
    have qxb:w1.heap.size≤w2.heap.size:=qca.size
    clear qja qgb qka qea qya qca
    have qib:=hon
    clear hon
    obtain ⟨qma,qna,qoa,qpa,qqa,qra,qsa,qta⟩:=blk7 qfa
    go_wp2_with fail
    clear qma qna qoa qpa qqa qra qsa qta
    generalize e_:(World.alloc _ _)=w3
    symm at e_
    have qua:=hkq e_ (blk_alloc qfa _)
    have qjb:=hkq e_ (blk_alloc qhb _)
    have qba:=hkq e_ (blk_alloc qla _)
    have qbb:=hkq e_ (bnk w2.heap.size)
    have qwa:=(qib.alloc (.cells #[.int .i64 d2,.int .i64 f2,.slice A_n sn.length c_n] 26))
    rw [← e_] at qwa
    have qha:Below w.heap.size w w3:=by rw [e_];exact bel
    have qfb:=qha.size
    have qyb:w2.heap.size+1≤w3.heap.size:=(by rw [e_];simp;try omega)
    clear e_
    clear qfa qhb qla qib qga qab
    refine (unhide HOK _ qha).mono ?_
    rintro e w4 ⟨rfl,qda⟩
    have qxa:=blk_next qua qda
    have qkb:=blk_next qjb qda
    have qcb:=blk_next qba qda
    have qdb:=blk_next qbb qda
    have qeb:=qwa.below qda
    have qva:Below w.heap.size w w4:=qha.trans (Below.mono qda qfb)
    have qlb:=qva.size
    have qfc:w3.heap.size≤w4.heap.size:=qda.size
    clear qua qjb qba qbb qwa qha qfb qda
    obtain ⟨qma,qna,qoa,qpa,qqa,qra,qsa,qta⟩:=blk7 qxa
    go_wp2_with fail
    refine (unhide HCP _ qva).mono ?_
    rintro e w5 ⟨A1_o,c1_o,A2_o,c2_o,A3_o,c3_o,rfl,hon,qia⟩
    clear qma qna qoa qpa qqa qra qsa qta
    have qqb:=blk_next qxa qia
    have qzb:=blk_next qkb qia
    have qaa:=blk_next qcb qia
    have qmb:=blk_next qdb qia
    have qrb:=qeb.below qia
    have qnb:Below w.heap.size w w5:=qva.trans (Below.mono qia qlb)
    have qbc:=qnb.size
    have qgc:w4.heap.size≤w5.heap.size:=qia.size
    clear qxa qkb qcb qdb qeb qva qlb qia
    have qza:=hon
    clear hon
    go_upto_region 5 with fail
    generalize e_:(World.alloc _ _)=w6
    symm at e_
    have qjd:=hkq e_ (blk_alloc qqb _)
    have qkd:=hkq e_ (blk_alloc qzb _)
    have qld:=hkq e_ (blk_alloc qaa _)
    have qrc:=hkq e_ (blk_alloc qmb _)
    have qsb:=hkq e_ (bnk w5.heap.size)
    have qec:=(qrb.alloc (.cells #[.int .i64 d1,.int .i64 f1,.slice A1_o ss1.length c1_o,.int .i64 d2,.int .i64 f2,.slice A2_o ss2.length c2_o,.slice A3_o st.length c3_o] 29))
    rw [← e_] at qec
    have qac:=(qza.alloc (.cells #[.int .i64 d1,.int .i64 f1,.slice A1_o ss1.length c1_o,.int .i64 d2,.int .i64 f2,.slice A2_o ss2.length c2_o,.slice A3_o st.length c3_o] 29))
    rw [← e_] at qac
    have qtc:Below w.heap.size w w6:=by rw [e_];exact bel
    have qxd:=qtc.size
    have qyd:w5.heap.size+1≤w6.heap.size:=(by rw [e_];simp;try omega)
    clear e_
    clear qqb qzb qaa qmb qrb qza qnb qbc
    obtain ⟨qmd,qnd,qod,qpd,qqd,qrd,qsd,qtd⟩:=blk7 qkd
    obtain ⟨qxc,qyc,qzc,qad⟩:=blk3 qrc
    obtain ⟨qbd,qcd,qdd,qed,qfd,qgd,qhd,qid⟩:=blk7 qsb
    have hfz0_o:=(blk_cells qsb 0).2
    have hfz1_o:=(blk_cells qsb 1).2
    have hfz2_o:=(blk_cells qsb 2).2
    have hfz3_o:=(blk_cells qsb 3).2
    have hfz4_o:=(blk_cells qsb 4).2
    have hfz5_o:=(blk_cells qsb 5).2
    have hfz6_o:=(blk_cells qsb 6).2
    go_region_law (first|((have hoE:=qac.o3.row.alloc (.cells #[.int .i64 K,.int .i64 F,.int .i64 L,.int .i64 T,.int .i64 I,.string bs,.string as_] 167));(have hrE:Reads (w6.alloc (.cells #[.int .i64 K,.int .i64 F,.int .i64 L,.int .i64 T,.int .i64 I,.string bs,.string as_] 167)) (w6.heap.size+1) 7 (some ⟨w6.heap.size,0,none⟩) 1 (stepCells (PStep.mk K F L T I bs as_)):=reads_new w6 _ _ 1 7 rfl);refine step_append_any _ rfl (.tmp 35) (.tmp 37) _ rfl w4.heap.size 167 i0 _ 7 72 Tryz.underlying27 hi0 hz0 hz1 hz2 rfl (by omega) (.slice A3_o st.length c3_o) st.length (st.flatMap stepCells) rfl ?_ (w6.heap.size+1) (some ⟨w6.heap.size,0,none⟩) 1 1 (stepCells (PStep.mk K F L T I bs as_)) rfl ?_ (stepCells_one1 _) ?_ ?_ ?_ ?_;(first|exact hoE|exact ⟨hoE.1,hoE.2⟩);(first|exact hrE|exact ⟨hrE.1,hrE.2⟩);(unfold maxLen;omega);omega;(simp;omega);intro v1 w90 hoa hga0 hata;(have hga:World.grownBy (w6.alloc (.cells #[.int .i64 K,.int .i64 F,.int .i64 L,.int .i64 T,.int .i64 I,.string bs,.string as_] 167)) w90 (Value.slice A3_o st.length c3_o).ownBlock:=(by first|exact hga0|exact ⟨hga0.os,hga0.tape,hga0.output,hga0.size,hga0.block⟩));obtain ⟨A9,c9,rfl⟩:=own_slice hoa;(have quc:=blk_markedk (blk_alloc qjd (.cells #[.int .i64 K,.int .i64 F,.int .i64 L,.int .i64 T,.int .i64 I,.string bs,.string as_] 167)) hga hoE (by decide));(have qob:=blk_markedk (blk_alloc qld (.cells #[.int .i64 K,.int .i64 F,.int .i64 L,.int .i64 T,.int .i64 I,.string bs,.string as_] 167)) hga hoE (by decide));(have qvb:=blk_markedk (blk_alloc qrc (.cells #[.int .i64 K,.int .i64 F,.int .i64 L,.int .i64 T,.int .i64 I,.string bs,.string as_] 167)) hga hoE (by decide));(have qpb:=blk_markedk (blk_alloc qsb (.cells #[.int .i64 K,.int .i64 F,.int .i64 L,.int .i64 T,.int .i64 I,.string bs,.string as_] 167)) hga hoE (by decide));(have qvc:=own_grown (qec.row.alloc (.cells #[.int .i64 K,.int .i64 F,.int .i64 L,.int .i64 T,.int .i64 I,.string bs,.string as_] 167)) hga (own_ne_type (qec.row.alloc (.cells #[.int .i64 K,.int .i64 F,.int .i64 L,.int .i64 T,.int .i64 I,.string bs,.string as_] 167)) hoE (by decide)));(have qwc:=own_grown (qac.o1.row.alloc (.cells #[.int .i64 K,.int .i64 F,.int .i64 L,.int .i64 T,.int .i64 I,.string bs,.string as_] 167)) hga (own_ne_type (qac.o1.row.alloc (.cells #[.int .i64 K,.int .i64 F,.int .i64 L,.int .i64 T,.int .i64 I,.string bs,.string as_] 167)) hoE (by decide)));(have qvd:Below w.heap.size w w90:=(qtc.alloc (by first|exact Nat.le_refl _|(simp;done)|omega|(simp;omega)|exact (‹_∧_∧Below _ _ _›).2.2.size) (.cells #[.int .i64 K,.int .i64 F,.int .i64 L,.int .i64 T,.int .i64 I,.string bs,.string as_] 167)).trans (grown_below hga (fun k hk=>by have:=(hoE.lt k hk).1;omega) (by simp;omega)));(have qwd:w6.heap.size≤w90.heap.size:=(by have:=hga.size;simp at this;omega));obtain ⟨hy0_r,hy1_r,hy2_r,hy3_r,hy4_r,hy5_r,hy6_r,hyl_r⟩:=blk7 qob;have hz0_r:=(blk_cells qob 0).2;have hz1_r:=(blk_cells qob 1).2;have hz2_r:=(blk_cells qob 2).2;have hz3_r:=(blk_cells qob 3).2;have hz4_r:=(blk_cells qob 4).2;have hz5_r:=(blk_cells qob 5).2;have hz6_r:=(blk_cells qob 6).2;obtain ⟨hy0_n,hy1_n,hy2_n,hyl_n⟩:=blk3 qvb;have hz0_n:=(blk_cells qvb 0).2;have hz1_n:=(blk_cells qvb 1).2;have hz2_n:=(blk_cells qvb 2).2;obtain ⟨hy0_o,hy1_o,hy2_o,hy3_o,hy4_o,hy5_o,hy6_o,hyl_o⟩:=blk7 qpb;have hz0_o:=(blk_cells qpb 0).2;have hz1_o:=(blk_cells qpb 1).2;have hz2_o:=(blk_cells qpb 2).2;have hz3_o:=(blk_cells qpb 3).2;have hz4_o:=(blk_cells qpb 4).2;have hz5_o:=(blk_cells qpb 5).2;have hz6_o:=(blk_cells qpb 6).2;clear hga hga0 hrE hata qmd qnd qod qpd qqd qrd qsd qtd qxc qyc qzc qad qbd qcd qdd qed qfd qgd qhd qid hfz0_o hfz1_o hfz2_o hfz3_o hfz4_o hfz5_o hfz6_o))
    all_goals (
     go_wp2
     refine bodyPost_ret (v:=.tuple #[.agg #[.int .i64 d1,.int .i64 f1,.slice A1_o ss1.length c1_o,.int .i64 d2,.int .i64 f2,.slice A_n sn.length c_n,.slice A9 (st.length+1) c9],.bool true]) (by simp [results,Tryz.results193,go_sem, *]) rfl ?_
     have qcc:=boxAt_of quc
     have qdc:=boxAt_of qob
     have qqc:=boxAt_of qvb
     have qud:=boxAt_of qpb
     have hr2:=HR.out;subst hr2
     have hlen:(st++[(PStep.mk K F L T I bs as_)]).length=st.length+1:=by simp
     have hoa2:w90.ownsRow w4.heap.size 167 7 (.slice A9 (st++[(PStep.mk K F L T I bs as_)]).length c9) (st++[(PStep.mk K F L T I bs as_)]).length ((st++[(PStep.mk K F L T I bs as_)]).flatMap stepCells):=by rw [hlen,flat_snoc];exact hoa
     show ∃ B1 e1 B2 e2 B3 e3,_=_∧_∧_
     refine ⟨A1_o,c1_o,A_n,c_n,A9,c9,?_,⟨((OwnS.of (hi:=w90.heap.size) qwc (Nat.le_refl _)).boxy (by repeat (first|(with_reducible exact Boxy.refl _)|(with_reducible refine Boxy.drew ?_)|(with_reducible refine Boxy.drewN ?_ _)|(with_reducible refine Boxy.alloc ?_ _)|((with_reducible refine Boxy.setCell ?_ ?hbs _);(case hbs=>first|(with_reducible exact .inl (by assumption))|exact .inl (by assumption)|exact .inr (by simp)|exact .inr (by simp;omega)))))).wide (by omega) (by simp),((OwnS.of (hi:=w90.heap.size) qvc (Nat.le_refl _)).boxy (by repeat (first|(with_reducible exact Boxy.refl _)|(with_reducible refine Boxy.drew ?_)|(with_reducible refine Boxy.drewN ?_ _)|(with_reducible refine Boxy.alloc ?_ _)|((with_reducible refine Boxy.setCell ?_ ?hbs _);(case hbs=>first|(with_reducible exact .inl (by assumption))|exact .inl (by assumption)|exact .inr (by simp)|exact .inr (by simp;omega)))))).wide (by omega) (by simp),((OwnSt.of (hi:=w90.heap.size) hoa2 (Nat.le_refl _)).boxy (by repeat (first|(with_reducible exact Boxy.refl _)|(with_reducible refine Boxy.drew ?_)|(with_reducible refine Boxy.drewN ?_ _)|(with_reducible refine Boxy.alloc ?_ _)|((with_reducible refine Boxy.setCell ?_ ?hbs _);(case hbs=>first|(with_reducible exact .inl (by assumption))|exact .inl (by assumption)|exact .inr (by simp)|exact .inr (by simp;omega)))))).wide (by omega) (by simp),?_⟩,?_⟩
     ·show _=Ending.returned (.tuple #[.agg #[.int .i64 d1,.int .i64 f1,.slice A1_o ss1.length c1_o,.int .i64 d2,.int .i64 f2,.slice A_n sn.length c_n,.slice A9 (st++[(PStep.mk K F L T I bs as_)]).length c9],.bool true])
      rw [hlen]
     ·exact fun k hk hk2=>by have a:=qec.top k hk2;have b:=(qac.o1.row.lt k hk).1;omega
     ·exact bel)
  ·have hne:st.length=40:=by simp at he;omega
   have HR:Hid (res=((PDraft.mk d1 f1 ss1 d2 f2 ss2 st),false)):=by unfold Hid;rw [hr];exact if_neg (by simp [hne])
   clear hr h40 hne
   go_enter Tryz.func193,Tryz.ntmps193
   go_wp2_with fail
   generalize e_:(World.alloc _ _)=w1
   symm at e_
   have qja:=hkq e_ (blk_alloc (blk_alloc (bnk w.heap.size) _) _)
   have qgb:=hkq e_ (blk_alloc (bnk (w.heap.size+1)) _)
   have qka:=hkq e_ (bnk (w.heap.size+1+1))
   have qea:Below w.heap.size w w1:=by rw [e_];exact bel
   have qya:=qea.size
   have qwb:w.heap.size+3≤w1.heap.size:=(by rw [e_];simp;try omega)
   clear e_
   refine (unhide HSO _ qea).mono ?_
   rintro e w2 ⟨A_n,c_n,rfl,hon,qca⟩
   have qfa:=blk_next qja qca
   have qhb:=blk_next qgb qca
   have qla:=blk_next qka qca
   have qga:Below w.heap.size w w2:=qea.trans (Below.mono qca qya)
   have qab:=qga.size
   have qxb:w1.heap.size≤w2.heap.size:=qca.size
   clear qja qgb qka qea qya qca
   have qib:=hon
   clear hon
   obtain ⟨qma,qna,qoa,qpa,qqa,qra,qsa,qta⟩:=blk7 qfa
   go_wp2_with fail
   clear qma qna qoa qpa qqa qra qsa qta
   generalize e_:(World.alloc _ _)=w3
   symm at e_
   have qua:=hkq e_ (blk_alloc qfa _)
   have qjb:=hkq e_ (blk_alloc qhb _)
   have qba:=hkq e_ (blk_alloc qla _)
   have qbb:=hkq e_ (bnk w2.heap.size)
   have qwa:=(qib.alloc (.cells #[.int .i64 d2,.int .i64 f2,.slice A_n sn.length c_n] 26))
   rw [← e_] at qwa
   have qha:Below w.heap.size w w3:=by rw [e_];exact bel
   have qfb:=qha.size
   have qyb:w2.heap.size+1≤w3.heap.size:=(by rw [e_];simp;try omega)
   clear e_
   clear qfa qhb qla qib qga qab
   refine (unhide HOK _ qha).mono ?_
   rintro e w4 ⟨rfl,qda⟩
   have qxa:=blk_next qua qda
   have qkb:=blk_next qjb qda
   have qcb:=blk_next qba qda
   have qdb:=blk_next qbb qda
   have qeb:=qwa.below qda
   have qva:Below w.heap.size w w4:=qha.trans (Below.mono qda qfb)
   have qlb:=qva.size
   have qfc:w3.heap.size≤w4.heap.size:=qda.size
   clear qua qjb qba qbb qwa qha qfb qda
   obtain ⟨qma,qna,qoa,qpa,qqa,qra,qsa,qta⟩:=blk7 qxa
   go_wp2_with fail
   refine (unhide HCP _ qva).mono ?_
   rintro e w5 ⟨A1_o,c1_o,A2_o,c2_o,A3_o,c3_o,rfl,hon,qia⟩
   clear qma qna qoa qpa qqa qra qsa qta
   have qqb:=blk_next qxa qia
   have qzb:=blk_next qkb qia
   have qaa:=blk_next qcb qia
   have qmb:=blk_next qdb qia
   have qrb:=qeb.below qia
   have qnb:Below w.heap.size w w5:=qva.trans (Below.mono qia qlb)
   have qbc:=qnb.size
   have qgc:w4.heap.size≤w5.heap.size:=qia.size
   clear qxa qkb qcb qdb qeb qva qlb qia
   have qza:=hon
   clear hon
   obtain ⟨qhc,qic,qjc,qkc,qlc,qmc,qnc,qoc⟩:=blk7 qaa
   have hfz0_r:=(blk_cells qaa 0).2
   have hfz1_r:=(blk_cells qaa 1).2
   have hfz2_r:=(blk_cells qaa 2).2
   have hfz3_r:=(blk_cells qaa 3).2
   have hfz4_r:=(blk_cells qaa 4).2
   have hfz5_r:=(blk_cells qaa 5).2
   have hfz6_r:=(blk_cells qaa 6).2
   go_wp2
   refine bodyPost_ret (v:=.tuple #[.agg #[.int .i64 d1,.int .i64 f1,.slice A1_o ss1.length c1_o,.int .i64 d2,.int .i64 f2,.slice A2_o ss2.length c2_o,.slice A3_o st.length c3_o],.bool false]) (by simp [results,Tryz.results193,go_sem, *]) rfl ?_
   have qcc:=boxAt_of qqb
   have qdc:=boxAt_of qaa
   have qqc:=boxAt_of qmb
   have hr2:=HR.out;subst hr2
   exact ⟨A1_o,c1_o,A2_o,c2_o,A3_o,c3_o,rfl,(qza.boxy (by repeat (first|(with_reducible exact Boxy.refl _)|(with_reducible refine Boxy.drew ?_)|(with_reducible refine Boxy.drewN ?_ _)|(with_reducible refine Boxy.alloc ?_ _)|((with_reducible refine Boxy.setCell ?_ ?hbs _);(case hbs=>first|(with_reducible exact .inl (by assumption))|exact .inl (by assumption)|exact .inr (by simp)|exact .inr (by simp;omega)))))).wide (by omega) (by simp;try omega),(((((((qnb.setCell (p:=⟨w.heap.size+1+1,0,none⟩) (by show w.heap.size≤w.heap.size+1+1;omega) _).setCell (p:=⟨w.heap.size+1+1,1,none⟩) (by show w.heap.size≤w.heap.size+1+1;omega) _).setCell (p:=⟨w.heap.size+1+1,2,none⟩) (by show w.heap.size≤w.heap.size+1+1;omega) _).setCell (p:=⟨w.heap.size+1+1,3,none⟩) (by show w.heap.size≤w.heap.size+1+1;omega) _).setCell (p:=⟨w.heap.size+1+1,4,none⟩) (by show w.heap.size≤w.heap.size+1+1;omega) _).setCell (p:=⟨w.heap.size+1+1,5,none⟩) (by show w.heap.size≤w.heap.size+1+1;omega) _).setCell (p:=⟨w.heap.size+1+1,6,none⟩) (by show w.heap.size≤w.heap.size+1+1;omega) _)⟩
set_option maxHeartbeats 8000000 in
theorem i_UndoStep (D:PDraft) (B:Nat) (A1 A2 A3:Option Addr) (c1 c2 c3:Nat) (w:World) (hS:RdDraft w B A1 A2 A3 D) (hB:B≤w.heap.size) :
  Calls Tryz.prog 195 #[.agg (draftV D A1 c1 A2 c2 A3 c3)] w (UDraftWB (undoRes D).1.d1 (undoRes D).1.f1 (undoRes D).1.ss1 (undoRes D).1.d2 (undoRes D).1.f2 (undoRes D).1.ss2 (undoRes D).1.st (undoRes D).2 w):=by
 obtain ⟨d1,f1,ss1,d2,f2,ss2,st⟩:=D
 have hD:=hS
 obtain ⟨h1,h2,h3⟩:=hS
 simp only at h1 h2 h3
 have hn1:=h1.nb
 have hn2:=h2.nb
 have hn3:=h3.nb
 have hok:=fun (W:World) (hW:Below w.heap.size w W)=>i_DraftOk (PDraft.mk d1 f1 ss1 d2 f2 ss2 st) B A1 A2 A3 c1 c2 c3 W (hD.below (hW.mono hB)) (Nat.le_trans hB hW.size)
 have hcp:=fun (W:World) (hW:Below w.heap.size w W)=>u_draftCopied d1 f1 ss1 d2 f2 ss2 st B A1 A2 A3 c1 c2 c3 W (hD.below (hW.mono hB)) (Nat.le_trans hB hW.size)
 unfold draftV
 simp only
 cases hdk:draftOk (PDraft.mk d1 f1 ss1 d2 f2 ss2 st)
 ·have HR:=Lib.hid (undoRes_no hdk)
  simp only [hdk] at hok
  have HOK:=hide hok
  have HCP:=hide hcp
  clear hok hcp hD hdk
  go_enter Tryz.func195,Tryz.ntmps195
  go_wp2_with fail
  generalize e_:(World.alloc _ _)=w1
  symm at e_
  have qja:=hkq e_ (blk_alloc (bnk w.heap.size) _)
  have qka:=hkq e_ (bnk (w.heap.size+1))
  have qea:Below w.heap.size w w1:=by rw [e_];exact bel
  have qya:=qea.size
  have qwb:w.heap.size+2≤w1.heap.size:=(by rw [e_];simp;try omega)
  clear e_
  refine (unhide HOK _ qea).mono ?_
  rintro e w2 ⟨rfl,qca⟩
  have qfa:=blk_next qja qca
  have qla:=blk_next qka qca
  have qga:Below w.heap.size w w2:=qea.trans (Below.mono qca qya)
  have qab:=qga.size
  have qxb:w1.heap.size≤w2.heap.size:=qca.size
  clear qja qka qea qya qca
  obtain ⟨qma,qna,qoa,qpa,qqa,qra,qsa,qta⟩:=blk7 qfa
  go_wp2_with fail
  refine (unhide HCP _ qga).mono ?_
  rintro e w3 ⟨A1_o,c1_o,A2_o,c2_o,A3_o,c3_o,rfl,hon,qub⟩
  clear qma qna qoa qpa qqa qra qsa qta
  have qua:=blk_next qfa qub
  have qba:=blk_next qla qub
  have qha:Below w.heap.size w w3:=qga.trans (Below.mono qub qab)
  have qfb:=qha.size
  have qyb:w2.heap.size≤w3.heap.size:=qub.size
  clear qfa qla qga qab qub
  have qpc:=hon
  clear hon
  obtain ⟨qhc,qic,qjc,qkc,qlc,qmc,qnc,qoc⟩:=blk7 qba
  have hfz0_r:=(blk_cells qba 0).2
  have hfz1_r:=(blk_cells qba 1).2
  have hfz2_r:=(blk_cells qba 2).2
  have hfz3_r:=(blk_cells qba 3).2
  have hfz4_r:=(blk_cells qba 4).2
  have hfz5_r:=(blk_cells qba 5).2
  have hfz6_r:=(blk_cells qba 6).2
  go_wp2
  refine bodyPost_ret (v:=.tuple #[.agg #[.int .i64 d1,.int .i64 f1,.slice A1_o ss1.length c1_o,.int .i64 d2,.int .i64 f2,.slice A2_o ss2.length c2_o,.slice A3_o st.length c3_o],.bool false]) (by simp [results,Tryz.results195,go_sem, *]) rfl ?_
  have qcc:=boxAt_of qua
  have qdc:=boxAt_of qba
  refine udw_cast HR.out (UDraftB.weak ?_)
  exact ⟨A1_o,c1_o,A2_o,c2_o,A3_o,c3_o,rfl,(qpc.boxy (by repeat (first|(with_reducible exact Boxy.refl _)|(with_reducible refine Boxy.drew ?_)|(with_reducible refine Boxy.drewN ?_ _)|(with_reducible refine Boxy.alloc ?_ _)|((with_reducible refine Boxy.setCell ?_ ?hbs _);(case hbs=>first|(with_reducible exact .inl (by assumption))|exact .inl (by assumption)|exact .inr (by simp)|exact .inr (by simp;omega)))))).wide (by omega) (by simp;try omega),(((((((qha.setCell (p:=⟨w.heap.size+1,0,none⟩) (by show w.heap.size≤w.heap.size+1;omega) _).setCell (p:=⟨w.heap.size+1,1,none⟩) (by show w.heap.size≤w.heap.size+1;omega) _).setCell (p:=⟨w.heap.size+1,2,none⟩) (by show w.heap.size≤w.heap.size+1;omega) _).setCell (p:=⟨w.heap.size+1,3,none⟩) (by show w.heap.size≤w.heap.size+1;omega) _).setCell (p:=⟨w.heap.size+1,4,none⟩) (by show w.heap.size≤w.heap.size+1;omega) _).setCell (p:=⟨w.heap.size+1,5,none⟩) (by show w.heap.size≤w.heap.size+1;omega) _).setCell (p:=⟨w.heap.size+1,6,none⟩) (by show w.heap.size≤w.heap.size+1;omega) _)⟩
 ·rcases List.eq_nil_or_concat st with hst|⟨l,sl,hst⟩
  ·have HR:=Lib.hid (undoRes_nil (D:=PDraft.mk d1 f1 ss1 d2 f2 ss2 st) hst)
   simp only [hdk] at hok
   have HOK:=hide hok
   have HCP:=hide hcp
   have HL0:Hid (st.length=0):=by unfold Hid;rw [hst];rfl
   clear hok hcp hD hdk hst
   go_enter Tryz.func195,Tryz.ntmps195
   go_wp2_with fail
   generalize e_:(World.alloc _ _)=w1
   symm at e_
   have qja:=hkq e_ (blk_alloc (bnk w.heap.size) _)
   have qka:=hkq e_ (bnk (w.heap.size+1))
   have qea:Below w.heap.size w w1:=by rw [e_];exact bel
   have qya:=qea.size
   have qwb:w.heap.size+2≤w1.heap.size:=(by rw [e_];simp;try omega)
   clear e_
   refine (unhide HOK _ qea).mono ?_
   rintro e w2 ⟨rfl,qca⟩
   have qfa:=blk_next qja qca
   have qla:=blk_next qka qca
   have qga:Below w.heap.size w w2:=qea.trans (Below.mono qca qya)
   have qab:=qga.size
   have qxb:w1.heap.size≤w2.heap.size:=qca.size
   clear qja qka qea qya qca
   obtain ⟨qma,qna,qoa,qpa,qqa,qra,qsa,qta⟩:=blk7 qfa
   have hl0:=HL0.out
   go_upto_region 2 with fail
   clear hl0
   clear qma qna qoa qpa qqa qra qsa qta
   obtain ⟨qma,qna,qoa,qpa,qqa,qra,qsa,qta⟩:=blk7 qfa
   go_wp2_with fail
   refine (unhide HCP _ qga).mono ?_
   rintro e w3 ⟨A1_o,c1_o,A2_o,c2_o,A3_o,c3_o,rfl,hon,qub⟩
   clear qma qna qoa qpa qqa qra qsa qta
   have qua:=blk_next qfa qub
   have qba:=blk_next qla qub
   have qha:Below w.heap.size w w3:=qga.trans (Below.mono qub qab)
   have qfb:=qha.size
   have qyb:w2.heap.size≤w3.heap.size:=qub.size
   clear qfa qla qga qab qub
   have qpc:=hon
   clear hon
   obtain ⟨qhc,qic,qjc,qkc,qlc,qmc,qnc,qoc⟩:=blk7 qba
   have hfz0_r:=(blk_cells qba 0).2
   have hfz1_r:=(blk_cells qba 1).2
   have hfz2_r:=(blk_cells qba 2).2
   have hfz3_r:=(blk_cells qba 3).2
   have hfz4_r:=(blk_cells qba 4).2
   have hfz5_r:=(blk_cells qba 5).2
   have hfz6_r:=(blk_cells qba 6).2
   go_wp2
   refine bodyPost_ret (v:=.tuple #[.agg #[.int .i64 d1,.int .i64 f1,.slice A1_o ss1.length c1_o,.int .i64 d2,.int .i64 f2,.slice A2_o ss2.length c2_o,.slice A3_o st.length c3_o],.bool false]) (by simp [results,Tryz.results195,go_sem, *]) rfl ?_
   have qcc:=boxAt_of qua
   have qdc:=boxAt_of qba
   refine udw_cast HR.out (UDraftB.weak ?_)
   exact ⟨A1_o,c1_o,A2_o,c2_o,A3_o,c3_o,rfl,(qpc.boxy (by repeat (first|(with_reducible exact Boxy.refl _)|(with_reducible refine Boxy.drew ?_)|(with_reducible refine Boxy.drewN ?_ _)|(with_reducible refine Boxy.alloc ?_ _)|((with_reducible refine Boxy.setCell ?_ ?hbs _);(case hbs=>first|(with_reducible exact .inl (by assumption))|exact .inl (by assumption)|exact .inr (by simp)|exact .inr (by simp;omega)))))).wide (by omega) (by simp;try omega),(((((((qha.setCell (p:=⟨w.heap.size+1,0,none⟩) (by show w.heap.size≤w.heap.size+1;omega) _).setCell (p:=⟨w.heap.size+1,1,none⟩) (by show w.heap.size≤w.heap.size+1;omega) _).setCell (p:=⟨w.heap.size+1,2,none⟩) (by show w.heap.size≤w.heap.size+1;omega) _).setCell (p:=⟨w.heap.size+1,3,none⟩) (by show w.heap.size≤w.heap.size+1;omega) _).setCell (p:=⟨w.heap.size+1,4,none⟩) (by show w.heap.size≤w.heap.size+1;omega) _).setCell (p:=⟨w.heap.size+1,5,none⟩) (by show w.heap.size≤w.heap.size+1;omega) _).setCell (p:=⟨w.heap.size+1,6,none⟩) (by show w.heap.size≤w.heap.size+1;omega) _)⟩
  ·rw [List.concat_eq_append] at hst
   obtain ⟨K,F,L,T,I,bs,as_⟩:=sl
   have HST:=Lib.hid hst
   have HR:=Lib.hid (show undoRes (PDraft.mk d1 f1 ss1 d2 f2 ss2 st)=(⟨d1,f1,ss1,d2,f2,(stepRes false d2 f2 ss2 K F L T I bs as_).1,l⟩,true) by rw [hst] at hdk ⊢;exact undoRes_yes hdk)
   have hbk:=undo_ok (D:=PDraft.mk d1 f1 ss1 d2 f2 ss2 st) hst hdk
   simp only at hbk
   simp only [hdk] at hok
   have hz:=h3.sb (PStep.mk K F L T I bs as_) (by rw [hst];simp)
   simp only at hz
   obtain ⟨M,hM⟩:∃ M,M=l.length:=⟨_,rfl⟩
   have hNM:st.length=M+1:=by rw [hst,hM];simp
   have hMN:M<st.length:=by omega
   obtain ⟨hk9,ad,hade,hab,hc0,hc1,hc2,hc3,hc4,hc5,hc6,hz8,hz9⟩:=h3.at_ hMN
   have hel:st[M]=(PStep.mk K F L T I bs as_):=by subst hst;subst hM;simp
   rw [hel] at hc0 hc1 hc2 hc3 hc4 hc5 hc6
   simp only at hc0 hc1 hc2 hc3 hc4 hc5 hc6
   subst hade
   have hsb:=fun (W:World) (hW:Below w.heap.size w W)=>(i_StepBack d2 f2 B A2 _ c2 ss2 K F L T I bs as_ W (h2.below (hW.mono hB)) (Nat.le_trans hB hW.size) hz.1 hz.2).mono fun _ _ h=>UCardB.of h
   rw [hbk] at hsb
   generalize (stepRes false d2 f2 ss2 K F L T I bs as_).1=sn at hsb HR
   have hwm:IntKind.i64.wrap ((st.length:Int) - 1)=(M:Int):=by rw [show (st.length:Int) - 1=(M:Int) by omega,IntWalk.i64_in _ (by omega)]
   have hi0_:(0:Int)≤(M:Int):=by omega
   have hi1_:(M:Int)<(st.length:Int):=by omega
   have hn0:((st.length:Int)==0)=false:=by rw [beq_eq_false_iff_ne];omega
   have hNne:¬st.length=0:=by omega
   have hNnil:¬st=[]:=by intro h;rw [h] at hNne;exact hNne rfl
   have hq1:(ad.add (M * 7)).block<w.heap.size:=by rw [block_of_add];omega
   have HOK:=hide hok
   have HCP:=hide hcp
   have HSB:=hide hsb
   have HM:=Lib.hid hM
   have HNM:=Lib.hid hNM
   clear hok hcp hsb hD hdk hbk hel hz8 hz9 hk9 h3 hz hst hM hNM
   go_enter Tryz.func195,Tryz.ntmps195
   go_wp2_with fail
   generalize e_:(World.alloc _ _)=w1
   symm at e_
   have qja:=hkq e_ (blk_alloc (bnk w.heap.size) _)
   have qka:=hkq e_ (bnk (w.heap.size+1))
   have qea:Below w.heap.size w w1:=by rw [e_];exact bel
   have qya:=qea.size
   have qwb:w.heap.size+2≤w1.heap.size:=(by rw [e_];simp;try omega)
   clear e_
   refine (unhide HOK _ qea).mono ?_
   rintro e w2 ⟨rfl,qca⟩
   have qfa:=blk_next qja qca
   have qla:=blk_next qka qca
   have qga:Below w.heap.size w w2:=qea.trans (Below.mono qca qya)
   have qab:=qga.size
   have qxb:w1.heap.size≤w2.heap.size:=qca.size
   clear qja qka qea qya qca
   obtain ⟨qma,qna,qoa,qpa,qqa,qra,qsa,qta⟩:=blk7 qfa
   go_upto_region 4 with fail
   clear qma qna qoa qpa qqa qra qsa qta
   obtain ⟨qma,qna,qoa,qpa,qqa,qra,qsa,qta⟩:=blk7 qfa
   have hd0_:=(qga.cell (p:=(ad.add (M * 7))) hq1).trans hc0
   have hd1_:=(qga.cell (p:=⟨(ad.add (M * 7)).block,(ad.add (M * 7)).off+1,none⟩) hq1).trans hc1
   have hd2_:=(qga.cell (p:=⟨(ad.add (M * 7)).block,(ad.add (M * 7)).off+2,none⟩) hq1).trans hc2
   have hd3_:=(qga.cell (p:=⟨(ad.add (M * 7)).block,(ad.add (M * 7)).off+3,none⟩) hq1).trans hc3
   have hd4_:=(qga.cell (p:=⟨(ad.add (M * 7)).block,(ad.add (M * 7)).off+4,none⟩) hq1).trans hc4
   have hd5_:=(qga.cell (p:=⟨(ad.add (M * 7)).block,(ad.add (M * 7)).off+5,none⟩) hq1).trans hc5
   have hd6_:=(qga.cell (p:=⟨(ad.add (M * 7)).block,(ad.add (M * 7)).off+6,none⟩) hq1).trans hc6
   have hq2:(ad.add (M * 7)).block<w2.heap.size:=by omega
   go_cut [5,6] (fun sa sb wx=>∃ (g_n:Nat) (A_n:Option Addr) (c_n:Nat),sa=.pointer (some ⟨g_n,0,none⟩)∧sb=.bool true∧wx.heap[g_n]?=some (.cells #[.int .i64 d2,.int .i64 f2,.slice A_n sn.length c_n] 26 (0,0))∧OwnS wx w2.heap.size wx.heap.size A_n c_n sn∧w2.heap.size≤g_n∧Below w2.heap.size w2 wx)
   case first =>
    go_region_held3 (fun W=>(∀ p:Addr,p.block<w2.heap.size→W.cell? p=(w2).cell? p)∧(∀ p:Addr,p.block<w2.heap.size→W.frozen? p=(w2).frozen? p)∧Below (w2.heap.size) (w2) W) (exact keep_ofP bel) (first|(go_at_call 240;have hq:=(‹_∧_∧Below _ _ _›).2.2;refine (unhide HSB _ (qga.trans (hq.mono qab))).mono ?_;rintro e wf ⟨A_q,c_q,rfl,hor,hbf⟩;(have hof:=hor.wide (lo':=w2.heap.size) (hi':=wf.heap.size) hq.size (Nat.le_refl _));clear hor;have hqsf:=hq.size;have hbsf:=hbf.size;(try simp at hqsf);(try simp at hbsf);obtain ⟨hcbf,hfbf⟩:=bcell hbf;(try (have qzd:w2.heap.size<wf.heap.size:=(by omega)))))
    all_goals (go_wp2_with fail)
    all_goals (go_meet)
    all_goals (
     refine ⟨_,A_q,c_q,rfl,rfl,?_,?_,?_,?_⟩
     first
      |exact blk_new _ _
      |exact blk3_set (by first|exact blk_next (blk_new _ _) hbf|exact blk_next (blk_drew (blk_new _ _)) hbf) _ _ _
     first
      |exact (hof.alloc _).wide (Nat.le_refl _) (by simp)
      |exact (hof.box (by first|exact blk_next (blk_new _ _) hbf|exact blk_next (blk_drew (blk_new _ _)) hbf) (by decide) (by repeat (first|(with_reducible exact World.grownBy.refl _ _)|(refine only_setCell ?_ (.inl rfl) _)))).wide (Nat.le_refl _) (by simp [World.setCell])
     (first|exact Nat.le_refl _|omega|(simp;done)|(simp;omega))
     exact bel)
   obtain ⟨g_n,A_n,c_n,rfl,rfl,hkn,hon,hgn,hbX⟩:=hcut
   obtain ⟨w3,hwc⟩:∃ W,W=wc:=⟨_,rfl⟩
   subst hwc
   clear hd0_ hd1_ hd2_ hd3_ hd4_ hd5_ hd6_ hq2
   clear qma qna qoa qpa qqa qra qsa qta
   have qua:=blk_next qfa hbX
   have qba:=blk_next qla hbX
   have qha:Below w.heap.size w w3:=qga.trans (Below.mono hbX qab)
   have qfb:=qha.size
   have qyb:w2.heap.size≤w3.heap.size:=hbX.size
   clear qfa qla qga qab hbX
   have qwa:=hon
   clear hon
   have qbb:=hkn
   clear hkn
   obtain ⟨qma,qna,qoa,qpa,qqa,qra,qsa,qta⟩:=blk7 qua
   go_wp2_with fail
   refine (unhide HCP _ qha).mono ?_
   rintro e w4 ⟨A1_o,c1_o,A2_o,c2_o,A3_o,c3_o,rfl,hon,qda⟩
   clear qma qna qoa qpa qqa qra qsa qta
   have qxa:=blk_next qua qda
   have qcb:=blk_next qba qda
   have qdb:=blk_next qbb qda
   have qeb:=qwa.below qda
   have qva:Below w.heap.size w w4:=qha.trans (Below.mono qda qfb)
   have qlb:=qva.size
   have qfc:w3.heap.size≤w4.heap.size:=qda.size
   clear qua qba qbb qwa qha qfb qda
   have qsc:=hon
   clear hon
   go_upto_region 8 with fail
   generalize e_:(World.alloc _ _)=w5
   symm at e_
   have qqb:=hkq e_ (blk_alloc qxa _)
   have qaa:=hkq e_ (blk_alloc qcb _)
   have qmb:=hkq e_ (blk_alloc qdb _)
   have qtb:=hkq e_ (bnk w4.heap.size)
   have qrb:=(qeb.alloc (.cells #[.int .i64 d1,.int .i64 f1,.slice A1_o ss1.length c1_o,.int .i64 d2,.int .i64 f2,.slice A2_o ss2.length c2_o,.slice A3_o st.length c3_o] 29))
   rw [← e_] at qrb
   have qza:=(qsc.alloc (.cells #[.int .i64 d1,.int .i64 f1,.slice A1_o ss1.length c1_o,.int .i64 d2,.int .i64 f2,.slice A2_o ss2.length c2_o,.slice A3_o st.length c3_o] 29))
   rw [← e_] at qza
   have qnb:Below w.heap.size w w5:=by rw [e_];exact bel
   have qbc:=qnb.size
   have qgc:w4.heap.size+1≤w5.heap.size:=(by rw [e_];simp;try omega)
   clear e_
   clear qxa qcb qdb qeb qsc qva qlb
   have hcap:st.length≤c3_o∧c3_o≤9223372036854775807:=own_capk qza.o3.row
   obtain ⟨g3,cap3,hv3,_,_⟩:=qza.o3.row.form (by show 0<st.length;omega)
   have hA3:A3_o=some ⟨g3,0,none⟩:=by injection hv3
   subst hA3
   clear hv3
   have hb0_:(M:Int)≤(c3_o:Int):=by omega
   have hb1_:(0:Int)≤(M:Int):=by omega
   obtain ⟨qhc,qic,qjc,qkc,qlc,qmc,qnc,qoc⟩:=blk7 qaa
   have hfz0_r:=(blk_cells qaa 0).2
   have hfz1_r:=(blk_cells qaa 1).2
   have hfz2_r:=(blk_cells qaa 2).2
   have hfz3_r:=(blk_cells qaa 3).2
   have hfz4_r:=(blk_cells qaa 4).2
   have hfz5_r:=(blk_cells qaa 5).2
   have hfz6_r:=(blk_cells qaa 6).2
   obtain ⟨qxc,qyc,qzc,qad⟩:=blk3 qmb
   obtain ⟨qbd,qcd,qdd,qed,qfd,qgd,qhd,qid⟩:=blk7 qtb
   have hfz0_o:=(blk_cells qtb 0).2
   have hfz1_o:=(blk_cells qtb 1).2
   have hfz2_o:=(blk_cells qtb 2).2
   have hfz3_o:=(blk_cells qtb 3).2
   have hfz4_o:=(blk_cells qtb 4).2
   have hfz5_o:=(blk_cells qtb 5).2
   have hfz6_o:=(blk_cells qtb 6).2
   go_region_law (fail)
   all_goals (
    go_wp2
    refine bodyPost_ret (v:=.tuple #[.agg #[.int .i64 d1,.int .i64 f1,.slice A1_o ss1.length c1_o,.int .i64 d2,.int .i64 f2,.slice A_n sn.length c_n,.slice (some ⟨g3,0,none⟩) M M],.bool true]) (by simp [results,Tryz.results195,go_sem, *]) rfl ?_
    have qcc:=boxAt_of qqb
    have qdc:=boxAt_of qaa
    have qqc:=boxAt_of qmb
    have qud:=boxAt_of qtb
    refine udw_cast HR.out ?_
    have hpre:=own_prefixk (m:=M) qza.o3.row (by show M≤st.length;omega)
    have htl:st.take M=l:=by rw [HST.out,HM.out];simp
    simp only [flat_take stepCells_len,htl] at hpre
    rw [HM.out] at hpre
    show ∃ B1 e1 B2 e2 B3 e3,_=_∧_∧_
    refine ⟨A1_o,c1_o,A_n,c_n,some ⟨g3,0,none⟩,M,?_,⟨(qza.o1.boxy (by repeat (first|(with_reducible exact Boxy.refl _)|(with_reducible refine Boxy.drew ?_)|(with_reducible refine Boxy.drewN ?_ _)|(with_reducible refine Boxy.alloc ?_ _)|((with_reducible refine Boxy.setCell ?_ ?hbs _);(case hbs=>first|(with_reducible exact .inl (by assumption))|exact .inl (by assumption)|exact .inr (by simp)|exact .inr (by simp;omega)))))).wide (by omega) (by simp;try omega),(qrb.boxy (by repeat (first|(with_reducible exact Boxy.refl _)|(with_reducible refine Boxy.drew ?_)|(with_reducible refine Boxy.drewN ?_ _)|(with_reducible refine Boxy.alloc ?_ _)|((with_reducible refine Boxy.setCell ?_ ?hbs _);(case hbs=>first|(with_reducible exact .inl (by assumption))|exact .inl (by assumption)|exact .inr (by simp)|exact .inr (by simp;omega)))))).wide (by omega) (by simp;try omega),⟨c3_o,((OwnSt.mk hpre (fun k hk=>qza.o3.top k hk)).boxy (by repeat (first|(with_reducible exact Boxy.refl _)|(with_reducible refine Boxy.drew ?_)|(with_reducible refine Boxy.drewN ?_ _)|(with_reducible refine Boxy.alloc ?_ _)|((with_reducible refine Boxy.setCell ?_ ?hbs _);(case hbs=>first|(with_reducible exact .inl (by assumption))|exact .inl (by assumption)|exact .inr (by simp)|exact .inr (by simp;omega)))))).wide (by omega) (by simp;try omega)⟩,?_⟩,?_⟩
    ·rw [HM.out]
    ·exact fun k hk hk2=>by have a:=qrb.top k hk2;have b:=(qza.o1.row.lt k hk).1;omega
    ·exact bel)
end Go.Proofs.YtlimlolciekimaaGreatDoor
