/- Contracts of the program's and the reference's functions (Draft6i, Draft7i). -/
import Derived.Test.YtlimlolciekimaaGreatDoorRows
import Derived.Test.YtlimlolciekimaaGreatDoorQRf
namespace Go.Proofs.YtlimlolciekimaaGreatDoor
set_option maxHeartbeats 1600000
open Go.ChangeShapes Go.WideShapes Go.ChangeAt Go.RowKit
set_option linter.unusedVariables false
set_option maxRecDepth 10000
set_option maxHeartbeats 8000000 in
theorem Zok (D:Zd) (s:Zv) (B:Nat) (A1 A2 A3:Option Addr) (c1 c2 c3:Nat) (w:World) (hS:ZbY w B A1 A2 A3 D) (hB:B≤w.heap.size) (hbz:s.b.size≤16777216) (haz:s.a.size≤16777216) :
  Calls Tryz.prog 193 #[.agg (Zc2 D A1 c1 A2 c2 A3 c3),.agg #[.int .i64 s.K,.int .i64 s.F,.int .i64 s.L,.int .i64 s.T,.int .i64 s.I,.string s.b,.string s.a]] w (ZdV (Zbx D s).1.d1 (Zbx D s).1.f1 (Zbx D s).1.ss1 (Zbx D s).1.d2 (Zbx D s).1.f2 (Zbx D s).1.ss2 (Zbx D s).1.st (Zbx D s).2 w):=by
 obtain ⟨d1,f1,ss1,d2,f2,ss2,st⟩:=D
 obtain ⟨K,F,L,T,I,bs,as_⟩:=s
 have hD:=hS
 obtain ⟨h1,h2,h3⟩:=hS
 simp only at h1 h2 h3 hbz haz
 have hn1:=h1.nb
 have hn2:=h2.nb
 have hn3:=h3.nb
 have hok:=fun (W:World) (hW:Below w.heap.size w W)=>Zc3 (Zd.mk d1 f1 ss1 d2 f2 ss2 st) B A1 A2 A3 c1 c2 c3 W (hD.below (hW.mono hB)) (Nat.le_trans hB hW.size)
 have hso:=fun (W:World) (hW:Below w.heap.size w W)=>(ZkQ d2 f2 B A2 _ c2 ss2 K F L T I bs as_ W (h2.below (hW.mono hB)) (Nat.le_trans hB hW.size) hbz haz).mono fun _ _ h=>ZdD.of h
 have hcp:=fun (W:World) (hW:Below w.heap.size w W)=>Zd6 d1 f1 ss1 d2 f2 ss2 st B A1 A2 A3 c1 c2 c3 W (hD.below (hW.mono hB)) (Nat.le_trans hB hW.size)
 have hr:Zbx (Zd.mk d1 f1 ss1 d2 f2 ss2 st) (Zv.mk K F L T I bs as_)=if (ZaG (Zd.mk d1 f1 ss1 d2 f2 ss2 st)=true∧st.length≠40)∧(Zab true d2 f2 ss2 K F L T I bs as_).2=true then (⟨d1,f1,ss1,d2,f2,(Zab true d2 f2 ss2 K F L T I bs as_).1,st++[(Zv.mk K F L T I bs as_)]⟩,true) else ((Zd.mk d1 f1 ss1 d2 f2 ss2 st),false):=rfl
 have h40:=fun (h:ZaG (Zd.mk d1 f1 ss1 d2 f2 ss2 st)=true)=>ZfI h
 simp only at h40
 unfold Zc2
 simp only
 generalize ZaG (Zd.mk d1 f1 ss1 d2 f2 ss2 st)=dk at hok hr h40
 generalize (Zab true d2 f2 ss2 K F L T I bs as_).1=sn at hso hr
 generalize (Zab true d2 f2 ss2 K F L T I bs as_).2=sb at hso hr
 generalize Zbx (Zd.mk d1 f1 ss1 d2 f2 ss2 st) (Zv.mk K F L T I bs as_)=res at hr ⊢
 have HOK:=Zk hok
 have HSO:=Zk hso
 have HCP:=Zk hcp
 clear hok hso hcp hD
 obtain ⟨i0,hi0,hz0,hz1,hz2⟩:=info_parts ZcU
 cases dk
 ·have HR:Hid (res=((Zd.mk d1 f1 ss1 d2 f2 ss2 st),false)):=by unfold Hid;rw [hr];exact if_neg (by simp)
  clear hr h40
  go_enter Tryz.func193,Tryz.ntmps193
  go_wp2_with fail
  generalize e_:(World.alloc _ _)=w1
  symm at e_
  have qja:=hkq e_ (Zb (Zb (bnk w.heap.size) _) _)
  have qgb:=hkq e_ (Zb (bnk (w.heap.size+1)) _)
  have qka:=hkq e_ (bnk (w.heap.size+1+1))
  have qea:Below w.heap.size w w1:=by rw [e_];exact bel
  have qya:=qea.size
  have qwb:w.heap.size+3≤w1.heap.size:=(by rw [e_];simp;try omega)
  clear e_
  refine (Ze HSO _ qea).mono ?_
  rintro e w2 ⟨A_n,c_n,rfl,hon,qca⟩
  have qfa:=Za qja qca
  have qhb:=Za qgb qca
  have qla:=Za qka qca
  have qga:Below w.heap.size w w2:=qea.trans (Below.mono qca qya)
  have qab:=qga.size
  have qxb:w1.heap.size≤w2.heap.size:=qca.size
  clear qja qgb qka qea qya qca
  have qib:=hon
  clear hon
  obtain ⟨qma,qna,qoa,qpa,qqa,qra,qsa,qta⟩:=Zbh qfa
  go_wp2_with fail
  clear qma qna qoa qpa qqa qra qsa qta
  generalize e_:(World.alloc _ _)=w3
  symm at e_
  have qua:=hkq e_ (Zb qfa _)
  have qjb:=hkq e_ (Zb qhb _)
  have qba:=hkq e_ (Zb qla _)
  have qbb:=hkq e_ (bnk w2.heap.size)
  have qwa:=(qib.alloc (.cells #[.int .i64 d2,.int .i64 f2,.slice A_n sn.length c_n] 26))
  rw [← e_] at qwa
  have qha:Below w.heap.size w w3:=by rw [e_];exact bel
  have qfb:=qha.size
  have qyb:w2.heap.size+1≤w3.heap.size:=(by rw [e_];simp;try omega)
  clear e_
  clear qfa qhb qla qib qga qab
  refine (Ze HOK _ qha).mono ?_
  rintro e w4 ⟨rfl,qda⟩
  have qxa:=Za qua qda
  have qkb:=Za qjb qda
  have qcb:=Za qba qda
  have qdb:=Za qbb qda
  have qeb:=qwa.below qda
  have qva:Below w.heap.size w w4:=qha.trans (Below.mono qda qfb)
  have qlb:=qva.size
  have qfc:w3.heap.size≤w4.heap.size:=qda.size
  clear qua qjb qba qbb qwa qha qfb qda
  obtain ⟨qma,qna,qoa,qpa,qqa,qra,qsa,qta⟩:=Zbh qxa
  go_wp2_with fail
  refine (Ze HCP _ qva).mono ?_
  rintro e w5 ⟨A1_o,c1_o,A2_o,c2_o,A3_o,c3_o,rfl,hon,qia⟩
  clear qma qna qoa qpa qqa qra qsa qta
  have qqb:=Za qxa qia
  have qzb:=Za qkb qia
  have qaa:=Za qcb qia
  have qmb:=Za qdb qia
  have qrb:=qeb.below qia
  have qnb:Below w.heap.size w w5:=qva.trans (Below.mono qia qlb)
  have qbc:=qnb.size
  have qgc:w4.heap.size≤w5.heap.size:=qia.size
  clear qxa qkb qcb qdb qeb qva qlb qia
  have qza:=hon
  clear hon
  obtain ⟨qhc,qic,qjc,qkc,qlc,qmc,qnc,qoc⟩:=Zbh qaa
  have hfz0_r:=(Zc qaa 0).2
  have hfz1_r:=(Zc qaa 1).2
  have hfz2_r:=(Zc qaa 2).2
  have hfz3_r:=(Zc qaa 3).2
  have hfz4_r:=(Zc qaa 4).2
  have hfz5_r:=(Zc qaa 5).2
  have hfz6_r:=(Zc qaa 6).2
  go_wp2
  refine bodyPost_ret (v:=.tuple #[.agg #[.int .i64 d1,.int .i64 f1,.slice A1_o ss1.length c1_o,.int .i64 d2,.int .i64 f2,.slice A2_o ss2.length c2_o,.slice A3_o st.length c3_o],.bool false]) (by simp [results,Tryz.results193,go_sem, *]) rfl ?_
  have qcc:=Zl qqb
  have qdc:=Zl qaa
  have qqc:=Zl qmb
  have hr2:=HR.out;subst hr2
  exact ⟨A1_o,c1_o,A2_o,c2_o,A3_o,c3_o,rfl,(qza.boxy (by repeat (first|(with_reducible exact Zj.refl _)|(with_reducible refine Zj.drew ?_)|(with_reducible refine Zj.drewN ?_ _)|(with_reducible refine Zj.alloc ?_ _)|((with_reducible refine Zj.setCell ?_ ?hbs _);(case hbs=>first|(with_reducible exact .inl (by assumption))|exact .inl (by assumption)|exact .inr (by simp)|exact .inr (by simp;omega)))))).wide (by omega) (by simp;try omega),(((((((qnb.setCell (p:=⟨w.heap.size+1+1,0,none⟩) (by show w.heap.size≤w.heap.size+1+1;omega) _).setCell (p:=⟨w.heap.size+1+1,1,none⟩) (by show w.heap.size≤w.heap.size+1+1;omega) _).setCell (p:=⟨w.heap.size+1+1,2,none⟩) (by show w.heap.size≤w.heap.size+1+1;omega) _).setCell (p:=⟨w.heap.size+1+1,3,none⟩) (by show w.heap.size≤w.heap.size+1+1;omega) _).setCell (p:=⟨w.heap.size+1+1,4,none⟩) (by show w.heap.size≤w.heap.size+1+1;omega) _).setCell (p:=⟨w.heap.size+1+1,5,none⟩) (by show w.heap.size≤w.heap.size+1+1;omega) _).setCell (p:=⟨w.heap.size+1+1,6,none⟩) (by show w.heap.size≤w.heap.size+1+1;omega) _)⟩
 ·have h4:=h40 rfl
  cases he:((st.length:Int)==40)
  ·have hne:st.length≠40:=by intro h;rw [h] at he;simp at he
   cases sb
   ·have HR:Hid (res=((Zd.mk d1 f1 ss1 d2 f2 ss2 st),false)):=by unfold Hid;rw [hr];exact if_neg (by simp)
    clear hr h40 hne
    go_enter Tryz.func193,Tryz.ntmps193
    go_wp2_with fail
    generalize e_:(World.alloc _ _)=w1
    symm at e_
    have qja:=hkq e_ (Zb (Zb (bnk w.heap.size) _) _)
    have qgb:=hkq e_ (Zb (bnk (w.heap.size+1)) _)
    have qka:=hkq e_ (bnk (w.heap.size+1+1))
    have qea:Below w.heap.size w w1:=by rw [e_];exact bel
    have qya:=qea.size
    have qwb:w.heap.size+3≤w1.heap.size:=(by rw [e_];simp;try omega)
    clear e_
    refine (Ze HSO _ qea).mono ?_
    rintro e w2 ⟨A_n,c_n,rfl,hon,qca⟩
    have qfa:=Za qja qca
    have qhb:=Za qgb qca
    have qla:=Za qka qca
    have qga:Below w.heap.size w w2:=qea.trans (Below.mono qca qya)
    have qab:=qga.size
    have qxb:w1.heap.size≤w2.heap.size:=qca.size
    clear qja qgb qka qea qya qca
    have qib:=hon
    clear hon
    obtain ⟨qma,qna,qoa,qpa,qqa,qra,qsa,qta⟩:=Zbh qfa
    go_wp2_with fail
    clear qma qna qoa qpa qqa qra qsa qta
    generalize e_:(World.alloc _ _)=w3
    symm at e_
    have qua:=hkq e_ (Zb qfa _)
    have qjb:=hkq e_ (Zb qhb _)
    have qba:=hkq e_ (Zb qla _)
    have qbb:=hkq e_ (bnk w2.heap.size)
    have qwa:=(qib.alloc (.cells #[.int .i64 d2,.int .i64 f2,.slice A_n sn.length c_n] 26))
    rw [← e_] at qwa
    have qha:Below w.heap.size w w3:=by rw [e_];exact bel
    have qfb:=qha.size
    have qyb:w2.heap.size+1≤w3.heap.size:=(by rw [e_];simp;try omega)
    clear e_
    clear qfa qhb qla qib qga qab
    refine (Ze HOK _ qha).mono ?_
    rintro e w4 ⟨rfl,qda⟩
    have qxa:=Za qua qda
    have qkb:=Za qjb qda
    have qcb:=Za qba qda
    have qdb:=Za qbb qda
    have qeb:=qwa.below qda
    have qva:Below w.heap.size w w4:=qha.trans (Below.mono qda qfb)
    have qlb:=qva.size
    have qfc:w3.heap.size≤w4.heap.size:=qda.size
    clear qua qjb qba qbb qwa qha qfb qda
    obtain ⟨qma,qna,qoa,qpa,qqa,qra,qsa,qta⟩:=Zbh qxa
    go_wp2_with fail
    refine (Ze HCP _ qva).mono ?_
    rintro e w5 ⟨A1_o,c1_o,A2_o,c2_o,A3_o,c3_o,rfl,hon,qia⟩
    clear qma qna qoa qpa qqa qra qsa qta
    have qqb:=Za qxa qia
    have qzb:=Za qkb qia
    have qaa:=Za qcb qia
    have qmb:=Za qdb qia
    have qrb:=qeb.below qia
    have qnb:Below w.heap.size w w5:=qva.trans (Below.mono qia qlb)
    have qbc:=qnb.size
    have qgc:w4.heap.size≤w5.heap.size:=qia.size
    clear qxa qkb qcb qdb qeb qva qlb qia
    have qza:=hon
    clear hon
    obtain ⟨qhc,qic,qjc,qkc,qlc,qmc,qnc,qoc⟩:=Zbh qaa
    have hfz0_r:=(Zc qaa 0).2
    have hfz1_r:=(Zc qaa 1).2
    have hfz2_r:=(Zc qaa 2).2
    have hfz3_r:=(Zc qaa 3).2
    have hfz4_r:=(Zc qaa 4).2
    have hfz5_r:=(Zc qaa 5).2
    have hfz6_r:=(Zc qaa 6).2
    go_wp2
    refine bodyPost_ret (v:=.tuple #[.agg #[.int .i64 d1,.int .i64 f1,.slice A1_o ss1.length c1_o,.int .i64 d2,.int .i64 f2,.slice A2_o ss2.length c2_o,.slice A3_o st.length c3_o],.bool false]) (by simp [results,Tryz.results193,go_sem, *]) rfl ?_
    have qcc:=Zl qqb
    have qdc:=Zl qaa
    have qqc:=Zl qmb
    have hr2:=HR.out;subst hr2
    exact ⟨A1_o,c1_o,A2_o,c2_o,A3_o,c3_o,rfl,(qza.boxy (by repeat (first|(with_reducible exact Zj.refl _)|(with_reducible refine Zj.drew ?_)|(with_reducible refine Zj.drewN ?_ _)|(with_reducible refine Zj.alloc ?_ _)|((with_reducible refine Zj.setCell ?_ ?hbs _);(case hbs=>first|(with_reducible exact .inl (by assumption))|exact .inl (by assumption)|exact .inr (by simp)|exact .inr (by simp;omega)))))).wide (by omega) (by simp;try omega),(((((((qnb.setCell (p:=⟨w.heap.size+1+1,0,none⟩) (by show w.heap.size≤w.heap.size+1+1;omega) _).setCell (p:=⟨w.heap.size+1+1,1,none⟩) (by show w.heap.size≤w.heap.size+1+1;omega) _).setCell (p:=⟨w.heap.size+1+1,2,none⟩) (by show w.heap.size≤w.heap.size+1+1;omega) _).setCell (p:=⟨w.heap.size+1+1,3,none⟩) (by show w.heap.size≤w.heap.size+1+1;omega) _).setCell (p:=⟨w.heap.size+1+1,4,none⟩) (by show w.heap.size≤w.heap.size+1+1;omega) _).setCell (p:=⟨w.heap.size+1+1,5,none⟩) (by show w.heap.size≤w.heap.size+1+1;omega) _).setCell (p:=⟨w.heap.size+1+1,6,none⟩) (by show w.heap.size≤w.heap.size+1+1;omega) _)⟩
   ·have HR:Hid (res=(⟨d1,f1,ss1,d2,f2,sn,st++[(Zv.mk K F L T I bs as_)]⟩,true)):=by unfold Hid;rw [hr];exact if_pos ⟨⟨rfl,hne⟩,rfl⟩
    clear hr h40 hne
    go_enter Tryz.func193,Tryz.ntmps193
    go_wp2_with fail
    generalize e_:(World.alloc _ _)=w1
    symm at e_
    have qja:=hkq e_ (Zb (Zb (bnk w.heap.size) _) _)
    have qgb:=hkq e_ (Zb (bnk (w.heap.size+1)) _)
    have qka:=hkq e_ (bnk (w.heap.size+1+1))
    have qea:Below w.heap.size w w1:=by rw [e_];exact bel
    have qya:=qea.size
    have qwb:w.heap.size+3≤w1.heap.size:=(by rw [e_];simp;try omega)
    clear e_
    refine (Ze HSO _ qea).mono ?_
    rintro e w2 ⟨A_n,c_n,rfl,hon,qca⟩
    have qfa:=Za qja qca
    have qhb:=Za qgb qca
    have qla:=Za qka qca
    have qga:Below w.heap.size w w2:=qea.trans (Below.mono qca qya)
    have qab:=qga.size
    have qxb:w1.heap.size≤w2.heap.size:=qca.size
    clear qja qgb qka qea qya qca
    have qib:=hon
    clear hon
    obtain ⟨qma,qna,qoa,qpa,qqa,qra,qsa,qta⟩:=Zbh qfa
    go_wp2_with fail
    clear qma qna qoa qpa qqa qra qsa qta
    generalize e_:(World.alloc _ _)=w3
    symm at e_
    have qua:=hkq e_ (Zb qfa _)
    have qjb:=hkq e_ (Zb qhb _)
    have qba:=hkq e_ (Zb qla _)
    have qbb:=hkq e_ (bnk w2.heap.size)
    have qwa:=(qib.alloc (.cells #[.int .i64 d2,.int .i64 f2,.slice A_n sn.length c_n] 26))
    rw [← e_] at qwa
    have qha:Below w.heap.size w w3:=by rw [e_];exact bel
    have qfb:=qha.size
    have qyb:w2.heap.size+1≤w3.heap.size:=(by rw [e_];simp;try omega)
    clear e_
    clear qfa qhb qla qib qga qab
    refine (Ze HOK _ qha).mono ?_
    rintro e w4 ⟨rfl,qda⟩
    have qxa:=Za qua qda
    have qkb:=Za qjb qda
    have qcb:=Za qba qda
    have qdb:=Za qbb qda
    have qeb:=qwa.below qda
    have qva:Below w.heap.size w w4:=qha.trans (Below.mono qda qfb)
    have qlb:=qva.size
    have qfc:w3.heap.size≤w4.heap.size:=qda.size
    clear qua qjb qba qbb qwa qha qfb qda
    obtain ⟨qma,qna,qoa,qpa,qqa,qra,qsa,qta⟩:=Zbh qxa
    go_wp2_with fail
    refine (Ze HCP _ qva).mono ?_
    rintro e w5 ⟨A1_o,c1_o,A2_o,c2_o,A3_o,c3_o,rfl,hon,qia⟩
    clear qma qna qoa qpa qqa qra qsa qta
    have qqb:=Za qxa qia
    have qzb:=Za qkb qia
    have qaa:=Za qcb qia
    have qmb:=Za qdb qia
    have qrb:=qeb.below qia
    have qnb:Below w.heap.size w w5:=qva.trans (Below.mono qia qlb)
    have qbc:=qnb.size
    have qgc:w4.heap.size≤w5.heap.size:=qia.size
    clear qxa qkb qcb qdb qeb qva qlb qia
    have qza:=hon
    clear hon
    go_upto_region 5 with fail
    generalize e_:(World.alloc _ _)=w6
    symm at e_
    have qjd:=hkq e_ (Zb qqb _)
    have qkd:=hkq e_ (Zb qzb _)
    have qld:=hkq e_ (Zb qaa _)
    have qrc:=hkq e_ (Zb qmb _)
    have qsb:=hkq e_ (bnk w5.heap.size)
    have qec:=(qrb.alloc (.cells #[.int .i64 d1,.int .i64 f1,.slice A1_o ss1.length c1_o,.int .i64 d2,.int .i64 f2,.slice A2_o ss2.length c2_o,.slice A3_o st.length c3_o] 29))
    rw [← e_] at qec
    have qac:=(qza.alloc (.cells #[.int .i64 d1,.int .i64 f1,.slice A1_o ss1.length c1_o,.int .i64 d2,.int .i64 f2,.slice A2_o ss2.length c2_o,.slice A3_o st.length c3_o] 29))
    rw [← e_] at qac
    have qtc:Below w.heap.size w w6:=by rw [e_];exact bel
    have qxd:=qtc.size
    have qyd:w5.heap.size+1≤w6.heap.size:=(by rw [e_];simp;try omega)
    clear e_
    clear qqb qzb qaa qmb qrb qza qnb qbc
    obtain ⟨qmd,qnd,qod,qpd,qqd,qrd,qsd,qtd⟩:=Zbh qkd
    obtain ⟨qxc,qyc,qzc,qad⟩:=Za8 qrc
    obtain ⟨qbd,qcd,qdd,qed,qfd,qgd,qhd,qid⟩:=Zbh qsb
    have hfz0_o:=(Zc qsb 0).2
    have hfz1_o:=(Zc qsb 1).2
    have hfz2_o:=(Zc qsb 2).2
    have hfz3_o:=(Zc qsb 3).2
    have hfz4_o:=(Zc qsb 4).2
    have hfz5_o:=(Zc qsb 5).2
    have hfz6_o:=(Zc qsb 6).2
    go_region_law (first|((have hoE:=qac.o3.row.alloc (.cells #[.int .i64 K,.int .i64 F,.int .i64 L,.int .i64 T,.int .i64 I,.string bs,.string as_] 167));(have hrE:Zal (w6.alloc (.cells #[.int .i64 K,.int .i64 F,.int .i64 L,.int .i64 T,.int .i64 I,.string bs,.string as_] 167)) (w6.heap.size+1) 7 (some ⟨w6.heap.size,0,none⟩) 1 (ZaY (Zv.mk K F L T I bs as_)):=Zer w6 _ _ 1 7 rfl);refine Za1 _ rfl (.tmp 35) (.tmp 37) _ rfl w4.heap.size 167 i0 _ 7 72 Tryz.underlying27 hi0 hz0 hz1 hz2 rfl (by omega) (.slice A3_o st.length c3_o) st.length (st.flatMap ZaY) rfl ?_ (w6.heap.size+1) (some ⟨w6.heap.size,0,none⟩) 1 1 (ZaY (Zv.mk K F L T I bs as_)) rfl ?_ (Ze6 _) ?_ ?_ ?_ ?_;(first|exact hoE|exact ⟨hoE.1,hoE.2⟩);(first|exact hrE|exact ⟨hrE.1,hrE.2⟩);(unfold maxLen;omega);omega;(simp;omega);intro v1 w90 hoa hga0 hata;(have hga:World.grownBy (w6.alloc (.cells #[.int .i64 K,.int .i64 F,.int .i64 L,.int .i64 T,.int .i64 I,.string bs,.string as_] 167)) w90 (Value.slice A3_o st.length c3_o).ownBlock:=(by first|exact hga0|exact ⟨hga0.os,hga0.tape,hga0.output,hga0.size,hga0.block⟩));obtain ⟨A9,c9,rfl⟩:=Zbg hoa;(have quc:=Zak (Zb qjd (.cells #[.int .i64 K,.int .i64 F,.int .i64 L,.int .i64 T,.int .i64 I,.string bs,.string as_] 167)) hga hoE (by decide));(have qob:=Zak (Zb qld (.cells #[.int .i64 K,.int .i64 F,.int .i64 L,.int .i64 T,.int .i64 I,.string bs,.string as_] 167)) hga hoE (by decide));(have qvb:=Zak (Zb qrc (.cells #[.int .i64 K,.int .i64 F,.int .i64 L,.int .i64 T,.int .i64 I,.string bs,.string as_] 167)) hga hoE (by decide));(have qpb:=Zak (Zb qsb (.cells #[.int .i64 K,.int .i64 F,.int .i64 L,.int .i64 T,.int .i64 I,.string bs,.string as_] 167)) hga hoE (by decide));(have qvc:=Za9 (qec.row.alloc (.cells #[.int .i64 K,.int .i64 F,.int .i64 L,.int .i64 T,.int .i64 I,.string bs,.string as_] 167)) hga (ZaS (qec.row.alloc (.cells #[.int .i64 K,.int .i64 F,.int .i64 L,.int .i64 T,.int .i64 I,.string bs,.string as_] 167)) hoE (by decide)));(have qwc:=Za9 (qac.o1.row.alloc (.cells #[.int .i64 K,.int .i64 F,.int .i64 L,.int .i64 T,.int .i64 I,.string bs,.string as_] 167)) hga (ZaS (qac.o1.row.alloc (.cells #[.int .i64 K,.int .i64 F,.int .i64 L,.int .i64 T,.int .i64 I,.string bs,.string as_] 167)) hoE (by decide)));(have qvd:Below w.heap.size w w90:=(qtc.alloc (by first|exact Nat.le_refl _|(simp;done)|omega|(simp;omega)|exact (‹_∧_∧Below _ _ _›).2.2.size) (.cells #[.int .i64 K,.int .i64 F,.int .i64 L,.int .i64 T,.int .i64 I,.string bs,.string as_] 167)).trans (Zaf hga (fun k hk=>by have:=(hoE.lt k hk).1;omega) (by simp;omega)));(have qwd:w6.heap.size≤w90.heap.size:=(by have:=hga.size;simp at this;omega));obtain ⟨hy0_r,hy1_r,hy2_r,hy3_r,hy4_r,hy5_r,hy6_r,hyl_r⟩:=Zbh qob;have hz0_r:=(Zc qob 0).2;have hz1_r:=(Zc qob 1).2;have hz2_r:=(Zc qob 2).2;have hz3_r:=(Zc qob 3).2;have hz4_r:=(Zc qob 4).2;have hz5_r:=(Zc qob 5).2;have hz6_r:=(Zc qob 6).2;obtain ⟨hy0_n,hy1_n,hy2_n,hyl_n⟩:=Za8 qvb;have hz0_n:=(Zc qvb 0).2;have hz1_n:=(Zc qvb 1).2;have hz2_n:=(Zc qvb 2).2;obtain ⟨hy0_o,hy1_o,hy2_o,hy3_o,hy4_o,hy5_o,hy6_o,hyl_o⟩:=Zbh qpb;have hz0_o:=(Zc qpb 0).2;have hz1_o:=(Zc qpb 1).2;have hz2_o:=(Zc qpb 2).2;have hz3_o:=(Zc qpb 3).2;have hz4_o:=(Zc qpb 4).2;have hz5_o:=(Zc qpb 5).2;have hz6_o:=(Zc qpb 6).2;clear hga hga0 hrE hata qmd qnd qod qpd qqd qrd qsd qtd qxc qyc qzc qad qbd qcd qdd qed qfd qgd qhd qid hfz0_o hfz1_o hfz2_o hfz3_o hfz4_o hfz5_o hfz6_o))
    all_goals (
     go_wp2
     refine bodyPost_ret (v:=.tuple #[.agg #[.int .i64 d1,.int .i64 f1,.slice A1_o ss1.length c1_o,.int .i64 d2,.int .i64 f2,.slice A_n sn.length c_n,.slice A9 (st.length+1) c9],.bool true]) (by simp [results,Tryz.results193,go_sem, *]) rfl ?_
     have qcc:=Zl quc
     have qdc:=Zl qob
     have qqc:=Zl qvb
     have qud:=Zl qpb
     have hr2:=HR.out;subst hr2
     have hlen:(st++[(Zv.mk K F L T I bs as_)]).length=st.length+1:=by simp
     have hoa2:w90.ownsRow w4.heap.size 167 7 (.slice A9 (st++[(Zv.mk K F L T I bs as_)]).length c9) (st++[(Zv.mk K F L T I bs as_)]).length ((st++[(Zv.mk K F L T I bs as_)]).flatMap ZaY):=by rw [hlen,ZcZ];exact hoa
     show ∃ B1 e1 B2 e2 B3 e3,_=_∧_∧_
     refine ⟨A1_o,c1_o,A_n,c_n,A9,c9,?_,⟨((Zaa.of (hi:=w90.heap.size) qwc (Nat.le_refl _)).boxy (by repeat (first|(with_reducible exact Zj.refl _)|(with_reducible refine Zj.drew ?_)|(with_reducible refine Zj.drewN ?_ _)|(with_reducible refine Zj.alloc ?_ _)|((with_reducible refine Zj.setCell ?_ ?hbs _);(case hbs=>first|(with_reducible exact .inl (by assumption))|exact .inl (by assumption)|exact .inr (by simp)|exact .inr (by simp;omega)))))).wide (by omega) (by simp),((Zaa.of (hi:=w90.heap.size) qvc (Nat.le_refl _)).boxy (by repeat (first|(with_reducible exact Zj.refl _)|(with_reducible refine Zj.drew ?_)|(with_reducible refine Zj.drewN ?_ _)|(with_reducible refine Zj.alloc ?_ _)|((with_reducible refine Zj.setCell ?_ ?hbs _);(case hbs=>first|(with_reducible exact .inl (by assumption))|exact .inl (by assumption)|exact .inr (by simp)|exact .inr (by simp;omega)))))).wide (by omega) (by simp),((ZbN.of (hi:=w90.heap.size) hoa2 (Nat.le_refl _)).boxy (by repeat (first|(with_reducible exact Zj.refl _)|(with_reducible refine Zj.drew ?_)|(with_reducible refine Zj.drewN ?_ _)|(with_reducible refine Zj.alloc ?_ _)|((with_reducible refine Zj.setCell ?_ ?hbs _);(case hbs=>first|(with_reducible exact .inl (by assumption))|exact .inl (by assumption)|exact .inr (by simp)|exact .inr (by simp;omega)))))).wide (by omega) (by simp),?_⟩,?_⟩
     ·show _=Ending.returned (.tuple #[.agg #[.int .i64 d1,.int .i64 f1,.slice A1_o ss1.length c1_o,.int .i64 d2,.int .i64 f2,.slice A_n sn.length c_n,.slice A9 (st++[(Zv.mk K F L T I bs as_)]).length c9],.bool true])
      rw [hlen]
     ·exact fun k hk hk2=>by have a:=qec.top k hk2;have b:=(qac.o1.row.lt k hk).1;omega
     ·exact bel)
  ·have hne:st.length=40:=by simp at he;omega
   have HR:Hid (res=((Zd.mk d1 f1 ss1 d2 f2 ss2 st),false)):=by unfold Hid;rw [hr];exact if_neg (by simp [hne])
   clear hr h40 hne
   go_enter Tryz.func193,Tryz.ntmps193
   go_wp2_with fail
   generalize e_:(World.alloc _ _)=w1
   symm at e_
   have qja:=hkq e_ (Zb (Zb (bnk w.heap.size) _) _)
   have qgb:=hkq e_ (Zb (bnk (w.heap.size+1)) _)
   have qka:=hkq e_ (bnk (w.heap.size+1+1))
   have qea:Below w.heap.size w w1:=by rw [e_];exact bel
   have qya:=qea.size
   have qwb:w.heap.size+3≤w1.heap.size:=(by rw [e_];simp;try omega)
   clear e_
   refine (Ze HSO _ qea).mono ?_
   rintro e w2 ⟨A_n,c_n,rfl,hon,qca⟩
   have qfa:=Za qja qca
   have qhb:=Za qgb qca
   have qla:=Za qka qca
   have qga:Below w.heap.size w w2:=qea.trans (Below.mono qca qya)
   have qab:=qga.size
   have qxb:w1.heap.size≤w2.heap.size:=qca.size
   clear qja qgb qka qea qya qca
   have qib:=hon
   clear hon
   obtain ⟨qma,qna,qoa,qpa,qqa,qra,qsa,qta⟩:=Zbh qfa
   go_wp2_with fail
   clear qma qna qoa qpa qqa qra qsa qta
   generalize e_:(World.alloc _ _)=w3
   symm at e_
   have qua:=hkq e_ (Zb qfa _)
   have qjb:=hkq e_ (Zb qhb _)
   have qba:=hkq e_ (Zb qla _)
   have qbb:=hkq e_ (bnk w2.heap.size)
   have qwa:=(qib.alloc (.cells #[.int .i64 d2,.int .i64 f2,.slice A_n sn.length c_n] 26))
   rw [← e_] at qwa
   have qha:Below w.heap.size w w3:=by rw [e_];exact bel
   have qfb:=qha.size
   have qyb:w2.heap.size+1≤w3.heap.size:=(by rw [e_];simp;try omega)
   clear e_
   clear qfa qhb qla qib qga qab
   refine (Ze HOK _ qha).mono ?_
   rintro e w4 ⟨rfl,qda⟩
   have qxa:=Za qua qda
   have qkb:=Za qjb qda
   have qcb:=Za qba qda
   have qdb:=Za qbb qda
   have qeb:=qwa.below qda
   have qva:Below w.heap.size w w4:=qha.trans (Below.mono qda qfb)
   have qlb:=qva.size
   have qfc:w3.heap.size≤w4.heap.size:=qda.size
   clear qua qjb qba qbb qwa qha qfb qda
   obtain ⟨qma,qna,qoa,qpa,qqa,qra,qsa,qta⟩:=Zbh qxa
   go_wp2_with fail
   refine (Ze HCP _ qva).mono ?_
   rintro e w5 ⟨A1_o,c1_o,A2_o,c2_o,A3_o,c3_o,rfl,hon,qia⟩
   clear qma qna qoa qpa qqa qra qsa qta
   have qqb:=Za qxa qia
   have qzb:=Za qkb qia
   have qaa:=Za qcb qia
   have qmb:=Za qdb qia
   have qrb:=qeb.below qia
   have qnb:Below w.heap.size w w5:=qva.trans (Below.mono qia qlb)
   have qbc:=qnb.size
   have qgc:w4.heap.size≤w5.heap.size:=qia.size
   clear qxa qkb qcb qdb qeb qva qlb qia
   have qza:=hon
   clear hon
   obtain ⟨qhc,qic,qjc,qkc,qlc,qmc,qnc,qoc⟩:=Zbh qaa
   have hfz0_r:=(Zc qaa 0).2
   have hfz1_r:=(Zc qaa 1).2
   have hfz2_r:=(Zc qaa 2).2
   have hfz3_r:=(Zc qaa 3).2
   have hfz4_r:=(Zc qaa 4).2
   have hfz5_r:=(Zc qaa 5).2
   have hfz6_r:=(Zc qaa 6).2
   go_wp2
   refine bodyPost_ret (v:=.tuple #[.agg #[.int .i64 d1,.int .i64 f1,.slice A1_o ss1.length c1_o,.int .i64 d2,.int .i64 f2,.slice A2_o ss2.length c2_o,.slice A3_o st.length c3_o],.bool false]) (by simp [results,Tryz.results193,go_sem, *]) rfl ?_
   have qcc:=Zl qqb
   have qdc:=Zl qaa
   have qqc:=Zl qmb
   have hr2:=HR.out;subst hr2
   exact ⟨A1_o,c1_o,A2_o,c2_o,A3_o,c3_o,rfl,(qza.boxy (by repeat (first|(with_reducible exact Zj.refl _)|(with_reducible refine Zj.drew ?_)|(with_reducible refine Zj.drewN ?_ _)|(with_reducible refine Zj.alloc ?_ _)|((with_reducible refine Zj.setCell ?_ ?hbs _);(case hbs=>first|(with_reducible exact .inl (by assumption))|exact .inl (by assumption)|exact .inr (by simp)|exact .inr (by simp;omega)))))).wide (by omega) (by simp;try omega),(((((((qnb.setCell (p:=⟨w.heap.size+1+1,0,none⟩) (by show w.heap.size≤w.heap.size+1+1;omega) _).setCell (p:=⟨w.heap.size+1+1,1,none⟩) (by show w.heap.size≤w.heap.size+1+1;omega) _).setCell (p:=⟨w.heap.size+1+1,2,none⟩) (by show w.heap.size≤w.heap.size+1+1;omega) _).setCell (p:=⟨w.heap.size+1+1,3,none⟩) (by show w.heap.size≤w.heap.size+1+1;omega) _).setCell (p:=⟨w.heap.size+1+1,4,none⟩) (by show w.heap.size≤w.heap.size+1+1;omega) _).setCell (p:=⟨w.heap.size+1+1,5,none⟩) (by show w.heap.size≤w.heap.size+1+1;omega) _).setCell (p:=⟨w.heap.size+1+1,6,none⟩) (by show w.heap.size≤w.heap.size+1+1;omega) _)⟩
set_option maxHeartbeats 8000000 in
theorem ZlS (D:Zd) (B:Nat) (A1 A2 A3:Option Addr) (c1 c2 c3:Nat) (w:World) (hS:ZbY w B A1 A2 A3 D) (hB:B≤w.heap.size) :
  Calls Tryz.prog 195 #[.agg (Zc2 D A1 c1 A2 c2 A3 c3)] w (Ze0 (ZaE D).1.d1 (ZaE D).1.f1 (ZaE D).1.ss1 (ZaE D).1.d2 (ZaE D).1.f2 (ZaE D).1.ss2 (ZaE D).1.st (ZaE D).2 w):=by
 obtain ⟨d1,f1,ss1,d2,f2,ss2,st⟩:=D
 have hD:=hS
 obtain ⟨h1,h2,h3⟩:=hS
 simp only at h1 h2 h3
 have hn1:=h1.nb
 have hn2:=h2.nb
 have hn3:=h3.nb
 have hok:=fun (W:World) (hW:Below w.heap.size w W)=>Zc3 (Zd.mk d1 f1 ss1 d2 f2 ss2 st) B A1 A2 A3 c1 c2 c3 W (hD.below (hW.mono hB)) (Nat.le_trans hB hW.size)
 have hcp:=fun (W:World) (hW:Below w.heap.size w W)=>Zd6 d1 f1 ss1 d2 f2 ss2 st B A1 A2 A3 c1 c2 c3 W (hD.below (hW.mono hB)) (Nat.le_trans hB hW.size)
 unfold Zc2
 simp only
 cases hdk:ZaG (Zd.mk d1 f1 ss1 d2 f2 ss2 st)
 ·have HR:=Lib.hid (ZhT hdk)
  simp only [hdk] at hok
  have HOK:=Zk hok
  have HCP:=Zk hcp
  clear hok hcp hD hdk
  go_enter Tryz.func195,Tryz.ntmps195
  go_wp2_with fail
  generalize e_:(World.alloc _ _)=w1
  symm at e_
  have qja:=hkq e_ (Zb (bnk w.heap.size) _)
  have qka:=hkq e_ (bnk (w.heap.size+1))
  have qea:Below w.heap.size w w1:=by rw [e_];exact bel
  have qya:=qea.size
  have qwb:w.heap.size+2≤w1.heap.size:=(by rw [e_];simp;try omega)
  clear e_
  refine (Ze HOK _ qea).mono ?_
  rintro e w2 ⟨rfl,qca⟩
  have qfa:=Za qja qca
  have qla:=Za qka qca
  have qga:Below w.heap.size w w2:=qea.trans (Below.mono qca qya)
  have qab:=qga.size
  have qxb:w1.heap.size≤w2.heap.size:=qca.size
  clear qja qka qea qya qca
  obtain ⟨qma,qna,qoa,qpa,qqa,qra,qsa,qta⟩:=Zbh qfa
  go_wp2_with fail
  refine (Ze HCP _ qga).mono ?_
  rintro e w3 ⟨A1_o,c1_o,A2_o,c2_o,A3_o,c3_o,rfl,hon,qub⟩
  clear qma qna qoa qpa qqa qra qsa qta
  have qua:=Za qfa qub
  have qba:=Za qla qub
  have qha:Below w.heap.size w w3:=qga.trans (Below.mono qub qab)
  have qfb:=qha.size
  have qyb:w2.heap.size≤w3.heap.size:=qub.size
  clear qfa qla qga qab qub
  have qpc:=hon
  clear hon
  obtain ⟨qhc,qic,qjc,qkc,qlc,qmc,qnc,qoc⟩:=Zbh qba
  have hfz0_r:=(Zc qba 0).2
  have hfz1_r:=(Zc qba 1).2
  have hfz2_r:=(Zc qba 2).2
  have hfz3_r:=(Zc qba 3).2
  have hfz4_r:=(Zc qba 4).2
  have hfz5_r:=(Zc qba 5).2
  have hfz6_r:=(Zc qba 6).2
  go_wp2
  refine bodyPost_ret (v:=.tuple #[.agg #[.int .i64 d1,.int .i64 f1,.slice A1_o ss1.length c1_o,.int .i64 d2,.int .i64 f2,.slice A2_o ss2.length c2_o,.slice A3_o st.length c3_o],.bool false]) (by simp [results,Tryz.results195,go_sem, *]) rfl ?_
  have qcc:=Zl qua
  have qdc:=Zl qba
  refine Zed HR.out (ZdV.weak ?_)
  exact ⟨A1_o,c1_o,A2_o,c2_o,A3_o,c3_o,rfl,(qpc.boxy (by repeat (first|(with_reducible exact Zj.refl _)|(with_reducible refine Zj.drew ?_)|(with_reducible refine Zj.drewN ?_ _)|(with_reducible refine Zj.alloc ?_ _)|((with_reducible refine Zj.setCell ?_ ?hbs _);(case hbs=>first|(with_reducible exact .inl (by assumption))|exact .inl (by assumption)|exact .inr (by simp)|exact .inr (by simp;omega)))))).wide (by omega) (by simp;try omega),(((((((qha.setCell (p:=⟨w.heap.size+1,0,none⟩) (by show w.heap.size≤w.heap.size+1;omega) _).setCell (p:=⟨w.heap.size+1,1,none⟩) (by show w.heap.size≤w.heap.size+1;omega) _).setCell (p:=⟨w.heap.size+1,2,none⟩) (by show w.heap.size≤w.heap.size+1;omega) _).setCell (p:=⟨w.heap.size+1,3,none⟩) (by show w.heap.size≤w.heap.size+1;omega) _).setCell (p:=⟨w.heap.size+1,4,none⟩) (by show w.heap.size≤w.heap.size+1;omega) _).setCell (p:=⟨w.heap.size+1,5,none⟩) (by show w.heap.size≤w.heap.size+1;omega) _).setCell (p:=⟨w.heap.size+1,6,none⟩) (by show w.heap.size≤w.heap.size+1;omega) _)⟩
 ·rcases List.eq_nil_or_concat st with hst|⟨l,sl,hst⟩
  ·have HR:=Lib.hid (Zg2 (D:=Zd.mk d1 f1 ss1 d2 f2 ss2 st) hst)
   simp only [hdk] at hok
   have HOK:=Zk hok
   have HCP:=Zk hcp
   have HL0:Hid (st.length=0):=by unfold Hid;rw [hst];rfl
   clear hok hcp hD hdk hst
   go_enter Tryz.func195,Tryz.ntmps195
   go_wp2_with fail
   generalize e_:(World.alloc _ _)=w1
   symm at e_
   have qja:=hkq e_ (Zb (bnk w.heap.size) _)
   have qka:=hkq e_ (bnk (w.heap.size+1))
   have qea:Below w.heap.size w w1:=by rw [e_];exact bel
   have qya:=qea.size
   have qwb:w.heap.size+2≤w1.heap.size:=(by rw [e_];simp;try omega)
   clear e_
   refine (Ze HOK _ qea).mono ?_
   rintro e w2 ⟨rfl,qca⟩
   have qfa:=Za qja qca
   have qla:=Za qka qca
   have qga:Below w.heap.size w w2:=qea.trans (Below.mono qca qya)
   have qab:=qga.size
   have qxb:w1.heap.size≤w2.heap.size:=qca.size
   clear qja qka qea qya qca
   obtain ⟨qma,qna,qoa,qpa,qqa,qra,qsa,qta⟩:=Zbh qfa
   have hl0:=HL0.out
   go_upto_region 2 with fail
   clear hl0
   clear qma qna qoa qpa qqa qra qsa qta
   obtain ⟨qma,qna,qoa,qpa,qqa,qra,qsa,qta⟩:=Zbh qfa
   go_wp2_with fail
   refine (Ze HCP _ qga).mono ?_
   rintro e w3 ⟨A1_o,c1_o,A2_o,c2_o,A3_o,c3_o,rfl,hon,qub⟩
   clear qma qna qoa qpa qqa qra qsa qta
   have qua:=Za qfa qub
   have qba:=Za qla qub
   have qha:Below w.heap.size w w3:=qga.trans (Below.mono qub qab)
   have qfb:=qha.size
   have qyb:w2.heap.size≤w3.heap.size:=qub.size
   clear qfa qla qga qab qub
   have qpc:=hon
   clear hon
   obtain ⟨qhc,qic,qjc,qkc,qlc,qmc,qnc,qoc⟩:=Zbh qba
   have hfz0_r:=(Zc qba 0).2
   have hfz1_r:=(Zc qba 1).2
   have hfz2_r:=(Zc qba 2).2
   have hfz3_r:=(Zc qba 3).2
   have hfz4_r:=(Zc qba 4).2
   have hfz5_r:=(Zc qba 5).2
   have hfz6_r:=(Zc qba 6).2
   go_wp2
   refine bodyPost_ret (v:=.tuple #[.agg #[.int .i64 d1,.int .i64 f1,.slice A1_o ss1.length c1_o,.int .i64 d2,.int .i64 f2,.slice A2_o ss2.length c2_o,.slice A3_o st.length c3_o],.bool false]) (by simp [results,Tryz.results195,go_sem, *]) rfl ?_
   have qcc:=Zl qua
   have qdc:=Zl qba
   refine Zed HR.out (ZdV.weak ?_)
   exact ⟨A1_o,c1_o,A2_o,c2_o,A3_o,c3_o,rfl,(qpc.boxy (by repeat (first|(with_reducible exact Zj.refl _)|(with_reducible refine Zj.drew ?_)|(with_reducible refine Zj.drewN ?_ _)|(with_reducible refine Zj.alloc ?_ _)|((with_reducible refine Zj.setCell ?_ ?hbs _);(case hbs=>first|(with_reducible exact .inl (by assumption))|exact .inl (by assumption)|exact .inr (by simp)|exact .inr (by simp;omega)))))).wide (by omega) (by simp;try omega),(((((((qha.setCell (p:=⟨w.heap.size+1,0,none⟩) (by show w.heap.size≤w.heap.size+1;omega) _).setCell (p:=⟨w.heap.size+1,1,none⟩) (by show w.heap.size≤w.heap.size+1;omega) _).setCell (p:=⟨w.heap.size+1,2,none⟩) (by show w.heap.size≤w.heap.size+1;omega) _).setCell (p:=⟨w.heap.size+1,3,none⟩) (by show w.heap.size≤w.heap.size+1;omega) _).setCell (p:=⟨w.heap.size+1,4,none⟩) (by show w.heap.size≤w.heap.size+1;omega) _).setCell (p:=⟨w.heap.size+1,5,none⟩) (by show w.heap.size≤w.heap.size+1;omega) _).setCell (p:=⟨w.heap.size+1,6,none⟩) (by show w.heap.size≤w.heap.size+1;omega) _)⟩
  ·rw [List.concat_eq_append] at hst
   obtain ⟨K,F,L,T,I,bs,as_⟩:=sl
   have HST:=Lib.hid hst
   have HR:=Lib.hid (show ZaE (Zd.mk d1 f1 ss1 d2 f2 ss2 st)=(⟨d1,f1,ss1,d2,f2,(Zab false d2 f2 ss2 K F L T I bs as_).1,l⟩,true) by rw [hst] at hdk ⊢;exact Zg5 hdk)
   have hbk:=Zmm (D:=Zd.mk d1 f1 ss1 d2 f2 ss2 st) hst hdk
   simp only at hbk
   simp only [hdk] at hok
   have hz:=h3.sb (Zv.mk K F L T I bs as_) (by rw [hst];simp)
   simp only at hz
   obtain ⟨M,hM⟩:∃ M,M=l.length:=⟨_,rfl⟩
   have hNM:st.length=M+1:=by rw [hst,hM];simp
   have hMN:M<st.length:=by omega
   obtain ⟨hk9,ad,hade,hab,hc0,hc1,hc2,hc3,hc4,hc5,hc6,hz8,hz9⟩:=h3.at_ hMN
   have hel:st[M]=(Zv.mk K F L T I bs as_):=by subst hst;subst hM;simp
   rw [hel] at hc0 hc1 hc2 hc3 hc4 hc5 hc6
   simp only at hc0 hc1 hc2 hc3 hc4 hc5 hc6
   subst hade
   have hsb:=fun (W:World) (hW:Below w.heap.size w W)=>(ZlN d2 f2 B A2 _ c2 ss2 K F L T I bs as_ W (h2.below (hW.mono hB)) (Nat.le_trans hB hW.size) hz.1 hz.2).mono fun _ _ h=>ZdD.of h
   rw [hbk] at hsb
   generalize (Zab false d2 f2 ss2 K F L T I bs as_).1=sn at hsb HR
   have hwm:IntKind.i64.wrap ((st.length:Int) - 1)=(M:Int):=by rw [show (st.length:Int) - 1=(M:Int) by omega,IntWalk.i64_in _ (by omega)]
   have hi0_:(0:Int)≤(M:Int):=by omega
   have hi1_:(M:Int)<(st.length:Int):=by omega
   have hn0:((st.length:Int)==0)=false:=by rw [beq_eq_false_iff_ne];omega
   have hNne:¬st.length=0:=by omega
   have hNnil:¬st=[]:=by intro h;rw [h] at hNne;exact hNne rfl
   have hq1:(ad.add (M * 7)).block<w.heap.size:=by rw [Zn];omega
   have HOK:=Zk hok
   have HCP:=Zk hcp
   have HSB:=Zk hsb
   have HM:=Lib.hid hM
   have HNM:=Lib.hid hNM
   clear hok hcp hsb hD hdk hbk hel hz8 hz9 hk9 h3 hz hst hM hNM
   go_enter Tryz.func195,Tryz.ntmps195
   go_wp2_with fail
   generalize e_:(World.alloc _ _)=w1
   symm at e_
   have qja:=hkq e_ (Zb (bnk w.heap.size) _)
   have qka:=hkq e_ (bnk (w.heap.size+1))
   have qea:Below w.heap.size w w1:=by rw [e_];exact bel
   have qya:=qea.size
   have qwb:w.heap.size+2≤w1.heap.size:=(by rw [e_];simp;try omega)
   clear e_
   refine (Ze HOK _ qea).mono ?_
   rintro e w2 ⟨rfl,qca⟩
   have qfa:=Za qja qca
   have qla:=Za qka qca
   have qga:Below w.heap.size w w2:=qea.trans (Below.mono qca qya)
   have qab:=qga.size
   have qxb:w1.heap.size≤w2.heap.size:=qca.size
   clear qja qka qea qya qca
   obtain ⟨qma,qna,qoa,qpa,qqa,qra,qsa,qta⟩:=Zbh qfa
   go_upto_region 4 with fail
   clear qma qna qoa qpa qqa qra qsa qta
   obtain ⟨qma,qna,qoa,qpa,qqa,qra,qsa,qta⟩:=Zbh qfa
   have hd0_:=(qga.cell (p:=(ad.add (M * 7))) hq1).trans hc0
   have hd1_:=(qga.cell (p:=⟨(ad.add (M * 7)).block,(ad.add (M * 7)).off+1,none⟩) hq1).trans hc1
   have hd2_:=(qga.cell (p:=⟨(ad.add (M * 7)).block,(ad.add (M * 7)).off+2,none⟩) hq1).trans hc2
   have hd3_:=(qga.cell (p:=⟨(ad.add (M * 7)).block,(ad.add (M * 7)).off+3,none⟩) hq1).trans hc3
   have hd4_:=(qga.cell (p:=⟨(ad.add (M * 7)).block,(ad.add (M * 7)).off+4,none⟩) hq1).trans hc4
   have hd5_:=(qga.cell (p:=⟨(ad.add (M * 7)).block,(ad.add (M * 7)).off+5,none⟩) hq1).trans hc5
   have hd6_:=(qga.cell (p:=⟨(ad.add (M * 7)).block,(ad.add (M * 7)).off+6,none⟩) hq1).trans hc6
   have hq2:(ad.add (M * 7)).block<w2.heap.size:=by omega
   go_cut [5,6] (fun sa sb wx=>∃ (g_n:Nat) (A_n:Option Addr) (c_n:Nat),sa=.pointer (some ⟨g_n,0,none⟩)∧sb=.bool true∧wx.heap[g_n]?=some (.cells #[.int .i64 d2,.int .i64 f2,.slice A_n sn.length c_n] 26 (0,0))∧Zaa wx w2.heap.size wx.heap.size A_n c_n sn∧w2.heap.size≤g_n∧Below w2.heap.size w2 wx)
   case first =>
    go_region_held3 (fun W=>(∀ p:Addr,p.block<w2.heap.size→W.cell? p=(w2).cell? p)∧(∀ p:Addr,p.block<w2.heap.size→W.frozen? p=(w2).frozen? p)∧Below (w2.heap.size) (w2) W) (exact Zam bel) (first|(go_at_call 240;have hq:=(‹_∧_∧Below _ _ _›).2.2;refine (Ze HSB _ (qga.trans (hq.mono qab))).mono ?_;rintro e wf ⟨A_q,c_q,rfl,hor,hbf⟩;(have hof:=hor.wide (lo':=w2.heap.size) (hi':=wf.heap.size) hq.size (Nat.le_refl _));clear hor;have hqsf:=hq.size;have hbsf:=hbf.size;(try simp at hqsf);(try simp at hbsf);obtain ⟨hcbf,hfbf⟩:=Zw hbf;(try (have qzd:w2.heap.size<wf.heap.size:=(by omega)))))
    all_goals (go_wp2_with fail)
    all_goals (go_meet)
    all_goals (
     refine ⟨_,A_q,c_q,rfl,rfl,?_,?_,?_,?_⟩
     first
      |exact Zy _ _
      |exact Zep (by first|exact Za (Zy _ _) hbf|exact Za (ZaK (Zy _ _)) hbf) _ _ _
     first
      |exact (hof.alloc _).wide (Nat.le_refl _) (by simp)
      |exact (hof.box (by first|exact Za (Zy _ _) hbf|exact Za (ZaK (Zy _ _)) hbf) (by decide) (by repeat (first|(with_reducible exact World.grownBy.refl _ _)|(refine ZdA ?_ (.inl rfl) _)))).wide (Nat.le_refl _) (by simp [World.setCell])
     (first|exact Nat.le_refl _|omega|(simp;done)|(simp;omega))
     exact bel)
   obtain ⟨g_n,A_n,c_n,rfl,rfl,hkn,hon,hgn,hbX⟩:=hcut
   obtain ⟨w3,hwc⟩:∃ W,W=wc:=⟨_,rfl⟩
   subst hwc
   clear hd0_ hd1_ hd2_ hd3_ hd4_ hd5_ hd6_ hq2
   clear qma qna qoa qpa qqa qra qsa qta
   have qua:=Za qfa hbX
   have qba:=Za qla hbX
   have qha:Below w.heap.size w w3:=qga.trans (Below.mono hbX qab)
   have qfb:=qha.size
   have qyb:w2.heap.size≤w3.heap.size:=hbX.size
   clear qfa qla qga qab hbX
   have qwa:=hon
   clear hon
   have qbb:=hkn
   clear hkn
   obtain ⟨qma,qna,qoa,qpa,qqa,qra,qsa,qta⟩:=Zbh qua
   go_wp2_with fail
   refine (Ze HCP _ qha).mono ?_
   rintro e w4 ⟨A1_o,c1_o,A2_o,c2_o,A3_o,c3_o,rfl,hon,qda⟩
   clear qma qna qoa qpa qqa qra qsa qta
   have qxa:=Za qua qda
   have qcb:=Za qba qda
   have qdb:=Za qbb qda
   have qeb:=qwa.below qda
   have qva:Below w.heap.size w w4:=qha.trans (Below.mono qda qfb)
   have qlb:=qva.size
   have qfc:w3.heap.size≤w4.heap.size:=qda.size
   clear qua qba qbb qwa qha qfb qda
   have qsc:=hon
   clear hon
   go_upto_region 8 with fail
   generalize e_:(World.alloc _ _)=w5
   symm at e_
   have qqb:=hkq e_ (Zb qxa _)
   have qaa:=hkq e_ (Zb qcb _)
   have qmb:=hkq e_ (Zb qdb _)
   have qtb:=hkq e_ (bnk w4.heap.size)
   have qrb:=(qeb.alloc (.cells #[.int .i64 d1,.int .i64 f1,.slice A1_o ss1.length c1_o,.int .i64 d2,.int .i64 f2,.slice A2_o ss2.length c2_o,.slice A3_o st.length c3_o] 29))
   rw [← e_] at qrb
   have qza:=(qsc.alloc (.cells #[.int .i64 d1,.int .i64 f1,.slice A1_o ss1.length c1_o,.int .i64 d2,.int .i64 f2,.slice A2_o ss2.length c2_o,.slice A3_o st.length c3_o] 29))
   rw [← e_] at qza
   have qnb:Below w.heap.size w w5:=by rw [e_];exact bel
   have qbc:=qnb.size
   have qgc:w4.heap.size+1≤w5.heap.size:=(by rw [e_];simp;try omega)
   clear e_
   clear qxa qcb qdb qeb qsc qva qlb
   have hcap:st.length≤c3_o∧c3_o≤9223372036854775807:=Zk1 qza.o3.row
   obtain ⟨g3,cap3,hv3,_,_⟩:=qza.o3.row.form (by show 0<st.length;omega)
   have hA3:A3_o=some ⟨g3,0,none⟩:=by injection hv3
   subst hA3
   clear hv3
   have hb0_:(M:Int)≤(c3_o:Int):=by omega
   have hb1_:(0:Int)≤(M:Int):=by omega
   obtain ⟨qhc,qic,qjc,qkc,qlc,qmc,qnc,qoc⟩:=Zbh qaa
   have hfz0_r:=(Zc qaa 0).2
   have hfz1_r:=(Zc qaa 1).2
   have hfz2_r:=(Zc qaa 2).2
   have hfz3_r:=(Zc qaa 3).2
   have hfz4_r:=(Zc qaa 4).2
   have hfz5_r:=(Zc qaa 5).2
   have hfz6_r:=(Zc qaa 6).2
   obtain ⟨qxc,qyc,qzc,qad⟩:=Za8 qmb
   obtain ⟨qbd,qcd,qdd,qed,qfd,qgd,qhd,qid⟩:=Zbh qtb
   have hfz0_o:=(Zc qtb 0).2
   have hfz1_o:=(Zc qtb 1).2
   have hfz2_o:=(Zc qtb 2).2
   have hfz3_o:=(Zc qtb 3).2
   have hfz4_o:=(Zc qtb 4).2
   have hfz5_o:=(Zc qtb 5).2
   have hfz6_o:=(Zc qtb 6).2
   go_region_law (fail)
   all_goals (
    go_wp2
    refine bodyPost_ret (v:=.tuple #[.agg #[.int .i64 d1,.int .i64 f1,.slice A1_o ss1.length c1_o,.int .i64 d2,.int .i64 f2,.slice A_n sn.length c_n,.slice (some ⟨g3,0,none⟩) M M],.bool true]) (by simp [results,Tryz.results195,go_sem, *]) rfl ?_
    have qcc:=Zl qqb
    have qdc:=Zl qaa
    have qqc:=Zl qmb
    have qud:=Zl qtb
    refine Zed HR.out ?_
    have hpre:=Zhd (m:=M) qza.o3.row (by show M≤st.length;omega)
    have htl:st.take M=l:=by rw [HST.out,HM.out];simp
    simp only [Zeg Zdc,htl] at hpre
    rw [HM.out] at hpre
    show ∃ B1 e1 B2 e2 B3 e3,_=_∧_∧_
    refine ⟨A1_o,c1_o,A_n,c_n,some ⟨g3,0,none⟩,M,?_,⟨(qza.o1.boxy (by repeat (first|(with_reducible exact Zj.refl _)|(with_reducible refine Zj.drew ?_)|(with_reducible refine Zj.drewN ?_ _)|(with_reducible refine Zj.alloc ?_ _)|((with_reducible refine Zj.setCell ?_ ?hbs _);(case hbs=>first|(with_reducible exact .inl (by assumption))|exact .inl (by assumption)|exact .inr (by simp)|exact .inr (by simp;omega)))))).wide (by omega) (by simp;try omega),(qrb.boxy (by repeat (first|(with_reducible exact Zj.refl _)|(with_reducible refine Zj.drew ?_)|(with_reducible refine Zj.drewN ?_ _)|(with_reducible refine Zj.alloc ?_ _)|((with_reducible refine Zj.setCell ?_ ?hbs _);(case hbs=>first|(with_reducible exact .inl (by assumption))|exact .inl (by assumption)|exact .inr (by simp)|exact .inr (by simp;omega)))))).wide (by omega) (by simp;try omega),⟨c3_o,((ZbN.mk hpre (fun k hk=>qza.o3.top k hk)).boxy (by repeat (first|(with_reducible exact Zj.refl _)|(with_reducible refine Zj.drew ?_)|(with_reducible refine Zj.drewN ?_ _)|(with_reducible refine Zj.alloc ?_ _)|((with_reducible refine Zj.setCell ?_ ?hbs _);(case hbs=>first|(with_reducible exact .inl (by assumption))|exact .inl (by assumption)|exact .inr (by simp)|exact .inr (by simp;omega)))))).wide (by omega) (by simp;try omega)⟩,?_⟩,?_⟩
    ·rw [HM.out]
    ·exact fun k hk hk2=>by have a:=qrb.top k hk2;have b:=(qza.o1.row.lt k hk).1;omega
    ·exact bel)
end Go.Proofs.YtlimlolciekimaaGreatDoor
