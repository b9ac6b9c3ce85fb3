/- Contracts of the program's and the reference's functions (Draft6s, Draft7s). -/
import Derived.Test.YtlimlolciekimaaGreatDoorRows
import Derived.Test.YtlimlolciekimaaGreatDoorQRf
namespace Go.Proofs.YtlimlolciekimaaGreatDoor
set_option maxHeartbeats 1600000
open Go.ChangeShapes Go.WideShapes Go.ChangeAt Go.RowKit
set_option linter.unusedVariables false
set_option maxRecDepth 10000
set_option maxHeartbeats 8000000 in
theorem Zoa (D:Zd) (s:Zv) (B:Nat) (A1 A2 A3:Option Addr) (c1 c2 c3:Nat) (w:World) (hS:ZbY w B A1 A2 A3 D) (hB:B≤w.heap.size) (hbz:s.b.size≤16777216) (haz:s.a.size≤16777216) :
  Calls Tryz.prog 183 #[.agg (Zc2 D A1 c1 A2 c2 A3 c3),.agg #[.int .i64 s.K,.int .i64 s.F,.int .i64 s.L,.int .i64 s.T,.int .i64 s.I,.string s.b,.string s.a]] w (ZdV (Zbx D s).1.d1 (Zbx D s).1.f1 (Zbx D s).1.ss1 (Zbx D s).1.d2 (Zbx D s).1.f2 (Zbx D s).1.ss2 (Zbx D s).1.st (Zbx D s).2 w):=by
 obtain ⟨d1,f1,ss1,d2,f2,ss2,st⟩:=D
 obtain ⟨K,F,L,T,I,bs,as_⟩:=s
 have hD:=hS
 obtain ⟨h1,h2,h3⟩:=hS
 simp only at h1 h2 h3 hbz haz
 have hn1:=h1.nb
 have hn2:=h2.nb
 have hn3:=h3.nb
 have hok:=fun (W:World) (hW:Below w.heap.size w W)=>Zc4 (Zd.mk d1 f1 ss1 d2 f2 ss2 st) B A1 A2 A3 c1 c2 c3 W (hD.below (hW.mono hB)) (Nat.le_trans hB hW.size)
 have hso:=fun (W:World) (hW:Below w.heap.size w W)=>(ZkN d2 f2 B A2 _ c2 ss2 K F L T I bs as_ W (h2.below (hW.mono hB)) (Nat.le_trans hB hW.size) hbz haz).mono fun _ _ h=>ZdD.of h
 have hcp:=fun (W:World) (hW:Below w.heap.size w W)=>ZgJ d1 f1 ss1 d2 f2 ss2 st B A1 A2 A3 c1 c2 c3 W (hD.below (hW.mono hB)) (Nat.le_trans hB hW.size)
 have hr:Zbx (Zd.mk d1 f1 ss1 d2 f2 ss2 st) (Zv.mk K F L T I bs as_)=if (ZaG (Zd.mk d1 f1 ss1 d2 f2 ss2 st)=true∧st.length≠40)∧(Zab true d2 f2 ss2 K F L T I bs as_).2=true then (⟨d1,f1,ss1,d2,f2,(Zab true d2 f2 ss2 K F L T I bs as_).1,st++[(Zv.mk K F L T I bs as_)]⟩,true) else ((Zd.mk d1 f1 ss1 d2 f2 ss2 st),false):=rfl
 have h40:=fun (h:ZaG (Zd.mk d1 f1 ss1 d2 f2 ss2 st)=true)=>ZfI h
 simp only at h40
 unfold Zc2
 simp only
 generalize ZaG (Zd.mk d1 f1 ss1 d2 f2 ss2 st)=dk at hok hr h40
 generalize (Zab true d2 f2 ss2 K F L T I bs as_).1=sn at hso hr
 generalize (Zab true d2 f2 ss2 K F L T I bs as_).2=sb at hso hr
 generalize Zbx (Zd.mk d1 f1 ss1 d2 f2 ss2 st) (Zv.mk K F L T I bs as_)=res at hr ⊢
 have HOK:=Zk hok
 have HSO:=Zk hso
 have HCP:=Zk hcp
 clear hok hso hcp hD
 obtain ⟨i0,hi0,hz0,hz1,hz2⟩:=info_parts ZcU
 cases dk
 ·have HR:Hid (res=((Zd.mk d1 f1 ss1 d2 f2 ss2 st),false)):=by unfold Hid;rw [hr];exact if_neg (by simp)
  clear hr h40
  go_enter Tryz.func183,Tryz.ntmps183
  go_wp2_with fail
  generalize e_:(World.alloc _ _)=w1
  symm at e_
  have qna:=hkq e_ (Zb (Zb (bnk w.heap.size) _) _)
  have qkb:=hkq e_ (Zb (bnk (w.heap.size+1)) _)
  have qoa:=hkq e_ (bnk (w.heap.size+1+1))
  have qea:Below w.heap.size w w1:=by rw [e_];exact bel
  have qcb:=qea.size
  have qkc:w.heap.size+3≤w1.heap.size:=(by rw [e_];simp;try omega)
  clear e_
  refine (Ze HCP _ qea).mono ?_
  rintro e w2 ⟨A1_o,c1_o,A2_o,c2_o,A3_o,c3_o,rfl,hon,qda⟩
  have qia:=Za qna qda
  have qlb:=Za qkb qda
  have qpa:=Za qoa qda
  have qdb:Below w.heap.size w w2:=qea.trans (Below.mono qda qcb)
  have qmb:=qdb.size
  have qlc:w1.heap.size≤w2.heap.size:=qda.size
  clear qna qkb qoa qea qcb qda
  have qqa:=hon
  clear hon
  obtain ⟨qua,qva,qwa,qxa,qya,qza,qab,qbb⟩:=Zbh qia
  go_wp2_with fail
  clear qua qva qwa qxa qya qza qab qbb
  generalize e_:(World.alloc _ _)=w3
  symm at e_
  have qra:=hkq e_ (Zb qia _)
  have qnb:=hkq e_ (Zb qlb _)
  have qsa:=hkq e_ (Zb qpa _)
  have qta:=hkq e_ (bnk w2.heap.size)
  have qja:=(qqa.alloc (.cells #[.int .i64 d1,.int .i64 f1,.slice A1_o ss1.length c1_o,.int .i64 d2,.int .i64 f2,.slice A2_o ss2.length c2_o,.slice A3_o st.length c3_o] 29))
  rw [← e_] at qja
  have qfa:Below w.heap.size w w3:=by rw [e_];exact bel
  have qeb:=qfa.size
  have qmc:w2.heap.size+1≤w3.heap.size:=(by rw [e_];simp;try omega)
  clear e_
  clear qia qlb qpa qqa qdb qmb
  refine (Ze HOK _ qfa).mono ?_
  rintro e w4 ⟨rfl,qca⟩
  have qka:=Za qra qca
  have qrb:=Za qnb qca
  have qaa:=Za qsa qca
  have qba:=Za qta qca
  have qfb:=qja.below qca
  have qga:Below w.heap.size w w4:=qfa.trans (Below.mono qca qeb)
  have qob:=qga.size
  have qnc:w3.heap.size≤w4.heap.size:=qca.size
  clear qra qnb qsa qta qja qfa qeb qca
  obtain ⟨qsc,qtc,quc,qvc,qwc,qxc,qyc,qzc⟩:=Zbh qaa
  have hfz0_r:=(Zc qaa 0).2
  have hfz1_r:=(Zc qaa 1).2
  have hfz2_r:=(Zc qaa 2).2
  have hfz3_r:=(Zc qaa 3).2
  have hfz4_r:=(Zc qaa 4).2
  have hfz5_r:=(Zc qaa 5).2
  have hfz6_r:=(Zc qaa 6).2
  obtain ⟨qvb,qwb,qxb,qyb,qzb,qac,qbc,qcc⟩:=Zbh qba
  have hfz0_o:=(Zc qba 0).2
  have hfz1_o:=(Zc qba 1).2
  have hfz2_o:=(Zc qba 2).2
  have hfz3_o:=(Zc qba 3).2
  have hfz4_o:=(Zc qba 4).2
  have hfz5_o:=(Zc qba 5).2
  have hfz6_o:=(Zc qba 6).2
  go_wp2
  refine bodyPost_ret (v:=.tuple #[.agg #[.int .i64 d1,.int .i64 f1,.slice A1_o ss1.length c1_o,.int .i64 d2,.int .i64 f2,.slice A2_o ss2.length c2_o,.slice A3_o st.length c3_o],.bool false]) (by simp [results,Tryz.results183,go_sem, *]) rfl ?_
  have qdc:=Zl qka
  have qec:=Zl qaa
  have qfc:=Zl qba
  have hr2:=HR.out;subst hr2
  exact ⟨A1_o,c1_o,A2_o,c2_o,A3_o,c3_o,rfl,(qfb.boxy (by repeat (first|(with_reducible exact Zj.refl _)|(with_reducible refine Zj.drew ?_)|(with_reducible refine Zj.drewN ?_ _)|(with_reducible refine Zj.alloc ?_ _)|((with_reducible refine Zj.setCell ?_ ?hbs _);(case hbs=>first|(with_reducible exact .inl (by assumption))|exact .inl (by assumption)|exact .inr (by simp)|exact .inr (by simp;omega)))))).wide (by omega) (by simp;try omega),(((((((qga.setCell (p:=⟨w.heap.size+1+1,0,none⟩) (by show w.heap.size≤w.heap.size+1+1;omega) _).setCell (p:=⟨w.heap.size+1+1,1,none⟩) (by show w.heap.size≤w.heap.size+1+1;omega) _).setCell (p:=⟨w.heap.size+1+1,2,none⟩) (by show w.heap.size≤w.heap.size+1+1;omega) _).setCell (p:=⟨w.heap.size+1+1,3,none⟩) (by show w.heap.size≤w.heap.size+1+1;omega) _).setCell (p:=⟨w.heap.size+1+1,4,none⟩) (by show w.heap.size≤w.heap.size+1+1;omega) _).setCell (p:=⟨w.heap.size+1+1,5,none⟩) (by show w.heap.size≤w.heap.size+1+1;omega) _).setCell (p:=⟨w.heap.size+1+1,6,none⟩) (by show w.heap.size≤w.heap.size+1+1;omega) _)⟩
 ·have h4:=h40 rfl
  cases he:((st.length:Int)==40)
  ·have hne:st.length≠40:=by intro h;rw [h] at he;simp at he
   cases sb
   ·have HR:Hid (res=((Zd.mk d1 f1 ss1 d2 f2 ss2 st),false)):=by unfold Hid;rw [hr];exact if_neg (by simp)
    clear hr h40 hne
    go_enter Tryz.func183,Tryz.ntmps183
    go_wp2_with fail
    generalize e_:(World.alloc _ _)=w1
    symm at e_
    have qna:=hkq e_ (Zb (Zb (bnk w.heap.size) _) _)
    have qkb:=hkq e_ (Zb (bnk (w.heap.size+1)) _)
    have qoa:=hkq e_ (bnk (w.heap.size+1+1))
    have qea:Below w.heap.size w w1:=by rw [e_];exact bel
    have qcb:=qea.size
    have qkc:w.heap.size+3≤w1.heap.size:=(by rw [e_];simp;try omega)
    clear e_
    refine (Ze HCP _ qea).mono ?_
    rintro e w2 ⟨A1_o,c1_o,A2_o,c2_o,A3_o,c3_o,rfl,hon,qda⟩
    have qia:=Za qna qda
    have qlb:=Za qkb qda
    have qpa:=Za qoa qda
    have qdb:Below w.heap.size w w2:=qea.trans (Below.mono qda qcb)
    have qmb:=qdb.size
    have qlc:w1.heap.size≤w2.heap.size:=qda.size
    clear qna qkb qoa qea qcb qda
    have qqa:=hon
    clear hon
    obtain ⟨qua,qva,qwa,qxa,qya,qza,qab,qbb⟩:=Zbh qia
    go_wp2_with fail
    clear qua qva qwa qxa qya qza qab qbb
    generalize e_:(World.alloc _ _)=w3
    symm at e_
    have qra:=hkq e_ (Zb qia _)
    have qnb:=hkq e_ (Zb qlb _)
    have qsa:=hkq e_ (Zb qpa _)
    have qta:=hkq e_ (bnk w2.heap.size)
    have qja:=(qqa.alloc (.cells #[.int .i64 d1,.int .i64 f1,.slice A1_o ss1.length c1_o,.int .i64 d2,.int .i64 f2,.slice A2_o ss2.length c2_o,.slice A3_o st.length c3_o] 29))
    rw [← e_] at qja
    have qfa:Below w.heap.size w w3:=by rw [e_];exact bel
    have qeb:=qfa.size
    have qmc:w2.heap.size+1≤w3.heap.size:=(by rw [e_];simp;try omega)
    clear e_
    clear qia qlb qpa qqa qdb qmb
    refine (Ze HOK _ qfa).mono ?_
    rintro e w4 ⟨rfl,qca⟩
    have qka:=Za qra qca
    have qrb:=Za qnb qca
    have qaa:=Za qsa qca
    have qba:=Za qta qca
    have qfb:=qja.below qca
    have qga:Below w.heap.size w w4:=qfa.trans (Below.mono qca qeb)
    have qob:=qga.size
    have qnc:w3.heap.size≤w4.heap.size:=qca.size
    clear qra qnb qsa qta qja qfa qeb qca
    obtain ⟨qua,qva,qwa,qxa,qya,qza,qab,qbb⟩:=Zbh qka
    obtain ⟨qad,qbd,qcd,qdd,qed,qfd,qgd,qhd⟩:=Zbh qrb
    go_wp2_with fail
    refine (Ze HSO _ qga).mono ?_
    rintro e w5 ⟨A_n,c_n,rfl,hon,qjb⟩
    clear qua qva qwa qxa qya qza qab qbb qad qbd qcd qdd qed qfd qgd qhd
    have qhb:=Za qka qjb
    have qhc:=Za qrb qjb
    have qib:=Za qaa qjb
    have qha:=Za qba qjb
    have qsb:=qfb.below qjb
    have qgc:Below w.heap.size w w5:=qga.trans (Below.mono qjb qob)
    have qrc:=qgc.size
    have qkd:w4.heap.size≤w5.heap.size:=qjb.size
    clear qka qrb qaa qba qfb qga qob qjb
    have qtb:=hon
    clear hon
    go_upto_region 5 with fail
    generalize e_:(World.alloc _ _)=w6
    symm at e_
    have qoc:=hkq e_ (Zb qhb _)
    have qjd:=hkq e_ (Zb qhc _)
    have qma:=hkq e_ (Zb qib _)
    have qla:=hkq e_ (Zb qha _)
    have qpc:=hkq e_ (bnk w5.heap.size)
    have qgb:=(qsb.alloc (.cells #[.int .i64 d2,.int .i64 f2,.slice A_n sn.length c_n] 26))
    rw [← e_] at qgb
    have qub:=(qtb.alloc (.cells #[.int .i64 d2,.int .i64 f2,.slice A_n sn.length c_n] 26))
    rw [← e_] at qub
    have qic:Below w.heap.size w w6:=by rw [e_];exact bel
    have qld:=qic.size
    have qmd:w5.heap.size+1≤w6.heap.size:=(by rw [e_];simp;try omega)
    clear e_
    clear qhb qhc qib qha qsb qtb qgc qrc
    obtain ⟨qsc,qtc,quc,qvc,qwc,qxc,qyc,qzc⟩:=Zbh qma
    have hfz0_r:=(Zc qma 0).2
    have hfz1_r:=(Zc qma 1).2
    have hfz2_r:=(Zc qma 2).2
    have hfz3_r:=(Zc qma 3).2
    have hfz4_r:=(Zc qma 4).2
    have hfz5_r:=(Zc qma 5).2
    have hfz6_r:=(Zc qma 6).2
    obtain ⟨qvb,qwb,qxb,qyb,qzb,qac,qbc,qcc⟩:=Zbh qla
    have hfz0_o:=(Zc qla 0).2
    have hfz1_o:=(Zc qla 1).2
    have hfz2_o:=(Zc qla 2).2
    have hfz3_o:=(Zc qla 3).2
    have hfz4_o:=(Zc qla 4).2
    have hfz5_o:=(Zc qla 5).2
    have hfz6_o:=(Zc qla 6).2
    go_wp2
    refine bodyPost_ret (v:=.tuple #[.agg #[.int .i64 d1,.int .i64 f1,.slice A1_o ss1.length c1_o,.int .i64 d2,.int .i64 f2,.slice A2_o ss2.length c2_o,.slice A3_o st.length c3_o],.bool false]) (by simp [results,Tryz.results183,go_sem, *]) rfl ?_
    have qdc:=Zl qoc
    have qec:=Zl qma
    have qfc:=Zl qla
    have qid:=Zl qpc
    have hr2:=HR.out;subst hr2
    exact ⟨A1_o,c1_o,A2_o,c2_o,A3_o,c3_o,rfl,(qgb.boxy (by repeat (first|(with_reducible exact Zj.refl _)|(with_reducible refine Zj.drew ?_)|(with_reducible refine Zj.drewN ?_ _)|(with_reducible refine Zj.alloc ?_ _)|((with_reducible refine Zj.setCell ?_ ?hbs _);(case hbs=>first|(with_reducible exact .inl (by assumption))|exact .inl (by assumption)|exact .inr (by simp)|exact .inr (by simp;omega)))))).wide (by omega) (by simp;try omega),(((((((qic.setCell (p:=⟨w.heap.size+1+1,0,none⟩) (by show w.heap.size≤w.heap.size+1+1;omega) _).setCell (p:=⟨w.heap.size+1+1,1,none⟩) (by show w.heap.size≤w.heap.size+1+1;omega) _).setCell (p:=⟨w.heap.size+1+1,2,none⟩) (by show w.heap.size≤w.heap.size+1+1;omega) _).setCell (p:=⟨w.heap.size+1+1,3,none⟩) (by show w.heap.size≤w.heap.size+1+1;omega) _).setCell (p:=⟨w.heap.size+1+1,4,none⟩) (by show w.heap.size≤w.heap.size+1+1;omega) _).setCell (p:=⟨w.heap.size+1+1,5,none⟩) (by show w.heap.size≤w.heap.size+1+1;omega) _).setCell (p:=⟨w.heap.size+1+1,6,none⟩) (by show w.heap.size≤w.heap.size+1+1;omega) _)⟩
   ·have HR:Hid (res=(⟨d1,f1,ss1,d2,f2,sn,st++[(Zv.mk K F L T I bs as_)]⟩,true)):=by unfold Hid;rw [hr];exact if_pos ⟨⟨rfl,hne⟩,rfl⟩
    clear hr h40 hne
    go_enter Tryz.func183,Tryz.ntmps183
    go_wp2_with fail
    generalize e_:(World.alloc _ _)=w1
    symm at e_
    have qna:=hkq e_ (Zb (Zb (bnk w.heap.size) _) _)
    have qkb:=hkq e_ (Zb (bnk (w.heap.size+1)) _)
    have qoa:=hkq e_ (bnk (w.heap.size+1+1))
    have qea:Below w.heap.size w w1:=by rw [e_];exact bel
    have qcb:=qea.size
    have qkc:w.heap.size+3≤w1.heap.size:=(by rw [e_];simp;try omega)
    clear e_
    refine (Ze HCP _ qea).mono ?_
    rintro e w2 ⟨A1_o,c1_o,A2_o,c2_o,A3_o,c3_o,rfl,hon,qda⟩
    have qia:=Za qna qda
    have qlb:=Za qkb qda
    have qpa:=Za qoa qda
    have qdb:Below w.heap.size w w2:=qea.trans (Below.mono qda qcb)
    have qmb:=qdb.size
    have qlc:w1.heap.size≤w2.heap.size:=qda.size
    clear qna qkb qoa qea qcb qda
    have qqa:=hon
    clear hon
    obtain ⟨qua,qva,qwa,qxa,qya,qza,qab,qbb⟩:=Zbh qia
    go_wp2_with fail
    clear qua qva qwa qxa qya qza qab qbb
    generalize e_:(World.alloc _ _)=w3
    symm at e_
    have qra:=hkq e_ (Zb qia _)
    have qnb:=hkq e_ (Zb qlb _)
    have qsa:=hkq e_ (Zb qpa _)
    have qta:=hkq e_ (bnk w2.heap.size)
    have qja:=(qqa.alloc (.cells #[.int .i64 d1,.int .i64 f1,.slice A1_o ss1.length c1_o,.int .i64 d2,.int .i64 f2,.slice A2_o ss2.length c2_o,.slice A3_o st.length c3_o] 29))
    rw [← e_] at qja
    have qfa:Below w.heap.size w w3:=by rw [e_];exact bel
    have qeb:=qfa.size
    have qmc:w2.heap.size+1≤w3.heap.size:=(by rw [e_];simp;try omega)
    clear e_
    clear qia qlb qpa qqa qdb qmb
    refine (Ze HOK _ qfa).mono ?_
    rintro e w4 ⟨rfl,qca⟩
    have qka:=Za qra qca
    have qrb:=Za qnb qca
    have qaa:=Za qsa qca
    have qba:=Za qta qca
    have qfb:=qja.below qca
    have qga:Below w.heap.size w w4:=qfa.trans (Below.mono qca qeb)
    have qob:=qga.size
    have qnc:w3.heap.size≤w4.heap.size:=qca.size
    clear qra qnb qsa qta qja qfa qeb qca
    obtain ⟨qua,qva,qwa,qxa,qya,qza,qab,qbb⟩:=Zbh qka
    obtain ⟨qad,qbd,qcd,qdd,qed,qfd,qgd,qhd⟩:=Zbh qrb
    go_wp2_with fail
    refine (Ze HSO _ qga).mono ?_
    rintro e w5 ⟨A_n,c_n,rfl,hon,qjb⟩
    clear qua qva qwa qxa qya qza qab qbb qad qbd qcd qdd qed qfd qgd qhd
    have qhb:=Za qka qjb
    have qhc:=Za qrb qjb
    have qib:=Za qaa qjb
    have qha:=Za qba qjb
    have qsb:=qfb.below qjb
    have qgc:Below w.heap.size w w5:=qga.trans (Below.mono qjb qob)
    have qrc:=qgc.size
    have qkd:w4.heap.size≤w5.heap.size:=qjb.size
    clear qka qrb qaa qba qfb qga qob qjb
    have qtb:=hon
    clear hon
    obtain ⟨qvb,qwb,qxb,qyb,qzb,qac,qbc,qcc⟩:=Zbh qha
    have hfz0_o:=(Zc qha 0).2
    have hfz1_o:=(Zc qha 1).2
    have hfz2_o:=(Zc qha 2).2
    have hfz3_o:=(Zc qha 3).2
    have hfz4_o:=(Zc qha 4).2
    have hfz5_o:=(Zc qha 5).2
    have hfz6_o:=(Zc qha 6).2
    go_upto_region 8 with fail
    clear qvb qwb qxb qyb qzb qac qbc qcc hfz0_o hfz1_o hfz2_o hfz3_o hfz4_o hfz5_o hfz6_o
    have qdc:=Zl qhb
    have qec:=Zl qib
    have qfc:=Zl qha
    have hgl_d:=Zg qhb
    have hgl_s:=Zg qhc
    have hgl_r:=Zg qib
    have hgl_o:=Zg qha
    have qoc:=(Zb (Zf (p:=⟨w2.heap.size,5,none⟩) (Zf (p:=⟨w2.heap.size,4,none⟩) (Zf (p:=⟨w2.heap.size,3,none⟩) qhb (by show _≠w2.heap.size;omega) (.int .i64 d2)) (by show _≠w2.heap.size;omega) (.int .i64 f2)) (by show _≠w2.heap.size;omega) (.slice A_n sn.length c_n)) (.cells #[.int .i64 d2,.int .i64 f2,.slice A_n sn.length c_n] 26))
    have qjd:=(Zb (Zf (p:=⟨w2.heap.size,5,none⟩) (Zf (p:=⟨w2.heap.size,4,none⟩) (Zf (p:=⟨w2.heap.size,3,none⟩) qhc (by show _≠w2.heap.size;omega) (.int .i64 d2)) (by show _≠w2.heap.size;omega) (.int .i64 f2)) (by show _≠w2.heap.size;omega) (.slice A_n sn.length c_n)) (.cells #[.int .i64 d2,.int .i64 f2,.slice A_n sn.length c_n] 26))
    have qma:=(Zb (Zf (p:=⟨w2.heap.size,5,none⟩) (Zf (p:=⟨w2.heap.size,4,none⟩) (Zf (p:=⟨w2.heap.size,3,none⟩) qib (by show _≠w2.heap.size;omega) (.int .i64 d2)) (by show _≠w2.heap.size;omega) (.int .i64 f2)) (by show _≠w2.heap.size;omega) (.slice A_n sn.length c_n)) (.cells #[.int .i64 d2,.int .i64 f2,.slice A_n sn.length c_n] 26))
    have qla:((((w5.setCell ⟨w2.heap.size,3,none⟩ (.int .i64 d2)).setCell ⟨w2.heap.size,4,none⟩ (.int .i64 f2)).setCell ⟨w2.heap.size,5,none⟩ (.slice A_n sn.length c_n)).alloc (.cells #[.int .i64 d2,.int .i64 f2,.slice A_n sn.length c_n] 26)).heap[w2.heap.size]?=some (.cells #[.int .i64 d1,.int .i64 f1,.slice A1_o ss1.length c1_o,.int .i64 d2,.int .i64 f2,.slice A_n sn.length c_n,.slice A3_o st.length c3_o] 29 (0,0)):=by simpa using (Zb (Zu (Zu (Zu qha 3 (.int .i64 d2)) 4 (.int .i64 f2)) 5 (.slice A_n sn.length c_n)) (.cells #[.int .i64 d2,.int .i64 f2,.slice A_n sn.length c_n] 26))
    have qpc:=(Zav (((w5.setCell ⟨w2.heap.size,3,none⟩ (.int .i64 d2)).setCell ⟨w2.heap.size,4,none⟩ (.int .i64 f2)).setCell ⟨w2.heap.size,5,none⟩ (.slice A_n sn.length c_n)) (.cells #[.int .i64 d2,.int .i64 f2,.slice A_n sn.length c_n] 26) (k:=w5.heap.size) (by simp))
    have qgb:=(qsb.boxy (w':=((((w5.setCell ⟨w2.heap.size,3,none⟩ (.int .i64 d2)).setCell ⟨w2.heap.size,4,none⟩ (.int .i64 f2)).setCell ⟨w2.heap.size,5,none⟩ (.slice A_n sn.length c_n)).alloc (.cells #[.int .i64 d2,.int .i64 f2,.slice A_n sn.length c_n] 26))) (by repeat (first|(with_reducible exact Zj.refl _)|(with_reducible refine Zj.drew ?_)|(with_reducible refine Zj.drewN ?_ _)|(with_reducible refine Zj.alloc ?_ _)|((with_reducible refine Zj.setCell ?_ ?hbs _);(case hbs=>first|(with_reducible exact .inl (by assumption))|exact .inl (by assumption)|exact .inr (by simp)|exact .inr (by simp;omega))))))
    have qub:=(qtb.boxy (w':=((((w5.setCell ⟨w2.heap.size,3,none⟩ (.int .i64 d2)).setCell ⟨w2.heap.size,4,none⟩ (.int .i64 f2)).setCell ⟨w2.heap.size,5,none⟩ (.slice A_n sn.length c_n)).alloc (.cells #[.int .i64 d2,.int .i64 f2,.slice A_n sn.length c_n] 26))) (by repeat (first|(with_reducible exact Zj.refl _)|(with_reducible refine Zj.drew ?_)|(with_reducible refine Zj.drewN ?_ _)|(with_reducible refine Zj.alloc ?_ _)|((with_reducible refine Zj.setCell ?_ ?hbs _);(case hbs=>first|(with_reducible exact .inl (by assumption))|exact .inl (by assumption)|exact .inr (by simp)|exact .inr (by simp;omega))))))
    have qic:Below w.heap.size w ((((w5.setCell ⟨w2.heap.size,3,none⟩ (.int .i64 d2)).setCell ⟨w2.heap.size,4,none⟩ (.int .i64 f2)).setCell ⟨w2.heap.size,5,none⟩ (.slice A_n sn.length c_n)).alloc (.cells #[.int .i64 d2,.int .i64 f2,.slice A_n sn.length c_n] 26)):=bel
    have qld:=qic.size
    have qmd:w5.heap.size+1≤((((w5.setCell ⟨w2.heap.size,3,none⟩ (.int .i64 d2)).setCell ⟨w2.heap.size,4,none⟩ (.int .i64 f2)).setCell ⟨w2.heap.size,5,none⟩ (.slice A_n sn.length c_n)).alloc (.cells #[.int .i64 d2,.int .i64 f2,.slice A_n sn.length c_n] 26)).heap.size:=(by simp;try omega)
    clear qdc qec qfc
    generalize ((((w5.setCell ⟨w2.heap.size,3,none⟩ (.int .i64 d2)).setCell ⟨w2.heap.size,4,none⟩ (.int .i64 f2)).setCell ⟨w2.heap.size,5,none⟩ (.slice A_n sn.length c_n)).alloc (.cells #[.int .i64 d2,.int .i64 f2,.slice A_n sn.length c_n] 26))=w6 at *
    clear qhb qhc qib qha qsb qtb qgc qrc
    obtain ⟨qad,qbd,qcd,qdd,qed,qfd,qgd,qhd⟩:=Zbh qjd
    obtain ⟨qvb,qwb,qxb,qyb,qzb,qac,qbc,qcc⟩:=Zbh qla
    go_wp2_with (at_builtin;(have hoE:=qgb.o3.row.alloc (.cells #[.int .i64 K,.int .i64 F,.int .i64 L,.int .i64 T,.int .i64 I,.string bs,.string as_] 167));(have hrE:Zal (w6.alloc (.cells #[.int .i64 K,.int .i64 F,.int .i64 L,.int .i64 T,.int .i64 I,.string bs,.string as_] 167)) (w6.heap.size+1) 7 (some ⟨w6.heap.size,0,none⟩) 1 (ZaY (Zv.mk K F L T I bs as_)):=Zer w6 _ _ 1 7 rfl);refine ZaV _ rfl (.tmp 34) (.tmp 36) _ rfl w1.heap.size 167 i0 _ 7 72 Tryz.underlying27 hi0 hz0 hz1 hz2 rfl (by omega) (.slice A3_o st.length c3_o) st.length (st.flatMap ZaY) rfl ?_ (w6.heap.size+1) (some ⟨w6.heap.size,0,none⟩) 1 1 (ZaY (Zv.mk K F L T I bs as_)) rfl ?_ (Ze6 _) ?_ ?_ ?_ ?_;(first|exact hoE|exact ⟨hoE.1,hoE.2⟩);(first|exact hrE|exact ⟨hrE.1,hrE.2⟩);(unfold maxLen;omega);omega;(simp;omega);intro v1 w90 hoa hga0 hata;(have hga:World.grownBy (w6.alloc (.cells #[.int .i64 K,.int .i64 F,.int .i64 L,.int .i64 T,.int .i64 I,.string bs,.string as_] 167)) w90 (Value.slice A3_o st.length c3_o).ownBlock:=(by first|exact hga0|exact ⟨hga0.os,hga0.tape,hga0.output,hga0.size,hga0.block⟩));obtain ⟨A9,c9,rfl⟩:=Zbg hoa;(have qnd:=Zak (Zb qoc (.cells #[.int .i64 K,.int .i64 F,.int .i64 L,.int .i64 T,.int .i64 I,.string bs,.string as_] 167)) hga hoE (by decide));(have qpb:=Zak (Zb qma (.cells #[.int .i64 K,.int .i64 F,.int .i64 L,.int .i64 T,.int .i64 I,.string bs,.string as_] 167)) hga hoE (by decide));(have qqb:=Zak (Zb qla (.cells #[.int .i64 K,.int .i64 F,.int .i64 L,.int .i64 T,.int .i64 I,.string bs,.string as_] 167)) hga hoE (by decide));(have qjc:=Zak (Zb qpc (.cells #[.int .i64 K,.int .i64 F,.int .i64 L,.int .i64 T,.int .i64 I,.string bs,.string as_] 167)) hga hoE (by decide));(have qod:=Za9 (qub.row.alloc (.cells #[.int .i64 K,.int .i64 F,.int .i64 L,.int .i64 T,.int .i64 I,.string bs,.string as_] 167)) hga (ZaS (qub.row.alloc (.cells #[.int .i64 K,.int .i64 F,.int .i64 L,.int .i64 T,.int .i64 I,.string bs,.string as_] 167)) hoE (by decide)));(have qpd:=Za9 (qgb.o1.row.alloc (.cells #[.int .i64 K,.int .i64 F,.int .i64 L,.int .i64 T,.int .i64 I,.string bs,.string as_] 167)) hga (ZaS (qgb.o1.row.alloc (.cells #[.int .i64 K,.int .i64 F,.int .i64 L,.int .i64 T,.int .i64 I,.string bs,.string as_] 167)) hoE (by decide)));(have qud:Below w.heap.size w w90:=(qic.alloc (by first|exact Nat.le_refl _|(simp;done)|omega|(simp;omega)|exact (‹_∧_∧Below _ _ _›).2.2.size) (.cells #[.int .i64 K,.int .i64 F,.int .i64 L,.int .i64 T,.int .i64 I,.string bs,.string as_] 167)).trans (Zaf hga (fun k hk=>by have:=(hoE.lt k hk).1;omega) (by simp;omega)));(have qvd:w6.heap.size≤w90.heap.size:=(by have:=hga.size;simp at this;omega));obtain ⟨hy0_r,hy1_r,hy2_r,hy3_r,hy4_r,hy5_r,hy6_r,hyl_r⟩:=Zbh qpb;have hz0_r:=(Zc qpb 0).2;have hz1_r:=(Zc qpb 1).2;have hz2_r:=(Zc qpb 2).2;have hz3_r:=(Zc qpb 3).2;have hz4_r:=(Zc qpb 4).2;have hz5_r:=(Zc qpb 5).2;have hz6_r:=(Zc qpb 6).2;obtain ⟨hy0_o,hy1_o,hy2_o,hy3_o,hy4_o,hy5_o,hy6_o,hyl_o⟩:=Zbh qqb;have hz0_o:=(Zc qqb 0).2;have hz1_o:=(Zc qqb 1).2;have hz2_o:=(Zc qqb 2).2;have hz3_o:=(Zc qqb 3).2;have hz4_o:=(Zc qqb 4).2;have hz5_o:=(Zc qqb 5).2;have hz6_o:=(Zc qqb 6).2;obtain ⟨hy0_n,hy1_n,hy2_n,hyl_n⟩:=Za8 qjc;have hz0_n:=(Zc qjc 0).2;have hz1_n:=(Zc qjc 1).2;have hz2_n:=(Zc qjc 2).2;clear hga hga0 hrE hata qad qbd qcd qdd qed qfd qgd qhd qvb qwb qxb qyb qzb qac qbc qcc)
    refine bodyPost_ret (v:=.tuple #[.agg #[.int .i64 d1,.int .i64 f1,.slice A1_o ss1.length c1_o,.int .i64 d2,.int .i64 f2,.slice A_n sn.length c_n,.slice A9 (st.length+1) c9],.bool true]) (by simp [results,Tryz.results183,go_sem, *]) rfl ?_
    have qdc:=Zl qnd
    have qec:=Zl qpb
    have qfc:=Zl qqb
    have qid:=Zl qjc
    have hr2:=HR.out;subst hr2
    have hlen:(st++[(Zv.mk K F L T I bs as_)]).length=st.length+1:=by simp
    have hoa2:w90.ownsRow w1.heap.size 167 7 (.slice A9 (st++[(Zv.mk K F L T I bs as_)]).length c9) (st++[(Zv.mk K F L T I bs as_)]).length ((st++[(Zv.mk K F L T I bs as_)]).flatMap ZaY):=by rw [hlen,ZcZ];exact hoa
    show ∃ B1 e1 B2 e2 B3 e3,_=_∧_∧_
    refine ⟨A1_o,c1_o,A_n,c_n,A9,c9,?_,⟨((Zaa.of (hi:=w90.heap.size) qpd (Nat.le_refl _)).boxy (by repeat (first|(with_reducible exact Zj.refl _)|(with_reducible refine Zj.drew ?_)|(with_reducible refine Zj.drewN ?_ _)|(with_reducible refine Zj.alloc ?_ _)|((with_reducible refine Zj.setCell ?_ ?hbs _);(case hbs=>first|(with_reducible exact .inl (by assumption))|exact .inl (by assumption)|exact .inr (by simp)|exact .inr (by simp;omega)))))).wide (by omega) (by simp),((Zaa.of (hi:=w90.heap.size) qod (Nat.le_refl _)).boxy (by repeat (first|(with_reducible exact Zj.refl _)|(with_reducible refine Zj.drew ?_)|(with_reducible refine Zj.drewN ?_ _)|(with_reducible refine Zj.alloc ?_ _)|((with_reducible refine Zj.setCell ?_ ?hbs _);(case hbs=>first|(with_reducible exact .inl (by assumption))|exact .inl (by assumption)|exact .inr (by simp)|exact .inr (by simp;omega)))))).wide (by omega) (by simp),((ZbN.of (hi:=w90.heap.size) hoa2 (Nat.le_refl _)).boxy (by repeat (first|(with_reducible exact Zj.refl _)|(with_reducible refine Zj.drew ?_)|(with_reducible refine Zj.drewN ?_ _)|(with_reducible refine Zj.alloc ?_ _)|((with_reducible refine Zj.setCell ?_ ?hbs _);(case hbs=>first|(with_reducible exact .inl (by assumption))|exact .inl (by assumption)|exact .inr (by simp)|exact .inr (by simp;omega)))))).wide (by omega) (by simp),?_⟩,?_⟩
    ·show _=Ending.returned (.tuple #[.agg #[.int .i64 d1,.int .i64 f1,.slice A1_o ss1.length c1_o,.int .i64 d2,.int .i64 f2,.slice A_n sn.length c_n,.slice A9 (st++[(Zv.mk K F L T I bs as_)]).length c9],.bool true])
     rw [hlen]
    ·exact fun k hk hk2=>by have a:=qgb.o1.top k hk;have b:=(qub.row.lt k hk2).1;omega
    ·exact bel
  ·have hne:st.length=40:=by simp at he;omega
   have HR:Hid (res=((Zd.mk d1 f1 ss1 d2 f2 ss2 st),false)):=by unfold Hid;rw [hr];exact if_neg (by simp [hne])
   have HE:=Lib.hid he
   clear hr h40 hne he
   go_enter Tryz.func183,Tryz.ntmps183
   go_wp2_with fail
   generalize e_:(World.alloc _ _)=w1
   symm at e_
   have qna:=hkq e_ (Zb (Zb (bnk w.heap.size) _) _)
   have qkb:=hkq e_ (Zb (bnk (w.heap.size+1)) _)
   have qoa:=hkq e_ (bnk (w.heap.size+1+1))
   have qea:Below w.heap.size w w1:=by rw [e_];exact bel
   have qcb:=qea.size
   have qkc:w.heap.size+3≤w1.heap.size:=(by rw [e_];simp;try omega)
   clear e_
   refine (Ze HCP _ qea).mono ?_
   rintro e w2 ⟨A1_o,c1_o,A2_o,c2_o,A3_o,c3_o,rfl,hon,qda⟩
   have qia:=Za qna qda
   have qlb:=Za qkb qda
   have qpa:=Za qoa qda
   have qdb:Below w.heap.size w w2:=qea.trans (Below.mono qda qcb)
   have qmb:=qdb.size
   have qlc:w1.heap.size≤w2.heap.size:=qda.size
   clear qna qkb qoa qea qcb qda
   have qqa:=hon
   clear hon
   obtain ⟨qua,qva,qwa,qxa,qya,qza,qab,qbb⟩:=Zbh qia
   go_wp2_with fail
   clear qua qva qwa qxa qya qza qab qbb
   generalize e_:(World.alloc _ _)=w3
   symm at e_
   have qra:=hkq e_ (Zb qia _)
   have qnb:=hkq e_ (Zb qlb _)
   have qsa:=hkq e_ (Zb qpa _)
   have qta:=hkq e_ (bnk w2.heap.size)
   have qja:=(qqa.alloc (.cells #[.int .i64 d1,.int .i64 f1,.slice A1_o ss1.length c1_o,.int .i64 d2,.int .i64 f2,.slice A2_o ss2.length c2_o,.slice A3_o st.length c3_o] 29))
   rw [← e_] at qja
   have qfa:Below w.heap.size w w3:=by rw [e_];exact bel
   have qeb:=qfa.size
   have qmc:w2.heap.size+1≤w3.heap.size:=(by rw [e_];simp;try omega)
   clear e_
   clear qia qlb qpa qqa qdb qmb
   refine (Ze HOK _ qfa).mono ?_
   rintro e w4 ⟨rfl,qca⟩
   have qka:=Za qra qca
   have qrb:=Za qnb qca
   have qaa:=Za qsa qca
   have qba:=Za qta qca
   have qfb:=qja.below qca
   have qga:Below w.heap.size w w4:=qfa.trans (Below.mono qca qeb)
   have qob:=qga.size
   have qnc:w3.heap.size≤w4.heap.size:=qca.size
   clear qra qnb qsa qta qja qfa qeb qca
   obtain ⟨qua,qva,qwa,qxa,qya,qza,qab,qbb⟩:=Zbh qka
   have he:=HE.out
   go_upto_region 3 with fail
   clear he
   clear qua qva qwa qxa qya qza qab qbb
   obtain ⟨qsc,qtc,quc,qvc,qwc,qxc,qyc,qzc⟩:=Zbh qaa
   have hfz0_r:=(Zc qaa 0).2
   have hfz1_r:=(Zc qaa 1).2
   have hfz2_r:=(Zc qaa 2).2
   have hfz3_r:=(Zc qaa 3).2
   have hfz4_r:=(Zc qaa 4).2
   have hfz5_r:=(Zc qaa 5).2
   have hfz6_r:=(Zc qaa 6).2
   obtain ⟨qvb,qwb,qxb,qyb,qzb,qac,qbc,qcc⟩:=Zbh qba
   have hfz0_o:=(Zc qba 0).2
   have hfz1_o:=(Zc qba 1).2
   have hfz2_o:=(Zc qba 2).2
   have hfz3_o:=(Zc qba 3).2
   have hfz4_o:=(Zc qba 4).2
   have hfz5_o:=(Zc qba 5).2
   have hfz6_o:=(Zc qba 6).2
   go_wp2
   refine bodyPost_ret (v:=.tuple #[.agg #[.int .i64 d1,.int .i64 f1,.slice A1_o ss1.length c1_o,.int .i64 d2,.int .i64 f2,.slice A2_o ss2.length c2_o,.slice A3_o st.length c3_o],.bool false]) (by simp [results,Tryz.results183,go_sem, *]) rfl ?_
   have qdc:=Zl qka
   have qec:=Zl qaa
   have qfc:=Zl qba
   have hr2:=HR.out;subst hr2
   exact ⟨A1_o,c1_o,A2_o,c2_o,A3_o,c3_o,rfl,(qfb.boxy (by repeat (first|(with_reducible exact Zj.refl _)|(with_reducible refine Zj.drew ?_)|(with_reducible refine Zj.drewN ?_ _)|(with_reducible refine Zj.alloc ?_ _)|((with_reducible refine Zj.setCell ?_ ?hbs _);(case hbs=>first|(with_reducible exact .inl (by assumption))|exact .inl (by assumption)|exact .inr (by simp)|exact .inr (by simp;omega)))))).wide (by omega) (by simp;try omega),(((((((qga.setCell (p:=⟨w.heap.size+1+1,0,none⟩) (by show w.heap.size≤w.heap.size+1+1;omega) _).setCell (p:=⟨w.heap.size+1+1,1,none⟩) (by show w.heap.size≤w.heap.size+1+1;omega) _).setCell (p:=⟨w.heap.size+1+1,2,none⟩) (by show w.heap.size≤w.heap.size+1+1;omega) _).setCell (p:=⟨w.heap.size+1+1,3,none⟩) (by show w.heap.size≤w.heap.size+1+1;omega) _).setCell (p:=⟨w.heap.size+1+1,4,none⟩) (by show w.heap.size≤w.heap.size+1+1;omega) _).setCell (p:=⟨w.heap.size+1+1,5,none⟩) (by show w.heap.size≤w.heap.size+1+1;omega) _).setCell (p:=⟨w.heap.size+1+1,6,none⟩) (by show w.heap.size≤w.heap.size+1+1;omega) _)⟩
set_option maxHeartbeats 8000000 in
theorem Zlt (D:Zd) (B:Nat) (A1 A2 A3:Option Addr) (c1 c2 c3:Nat) (w:World) (hS:ZbY w B A1 A2 A3 D) (hB:B≤w.heap.size) :
  Calls Tryz.prog 227 #[.agg (Zc2 D A1 c1 A2 c2 A3 c3)] w (Ze0 (ZaE D).1.d1 (ZaE D).1.f1 (ZaE D).1.ss1 (ZaE D).1.d2 (ZaE D).1.f2 (ZaE D).1.ss2 (ZaE D).1.st (ZaE D).2 w):=by
 obtain ⟨d1,f1,ss1,d2,f2,ss2,st⟩:=D
 have hD:=hS
 obtain ⟨h1,h2,h3⟩:=hS
 simp only at h1 h2 h3
 have hn1:=h1.nb
 have hn2:=h2.nb
 have hn3:=h3.nb
 have hok:=fun (W:World) (hW:Below w.heap.size w W)=>Zc4 (Zd.mk d1 f1 ss1 d2 f2 ss2 st) B A1 A2 A3 c1 c2 c3 W (hD.below (hW.mono hB)) (Nat.le_trans hB hW.size)
 have hcp:=fun (W:World) (hW:Below w.heap.size w W)=>ZgJ d1 f1 ss1 d2 f2 ss2 st B A1 A2 A3 c1 c2 c3 W (hD.below (hW.mono hB)) (Nat.le_trans hB hW.size)
 unfold Zc2
 simp only
 cases hdk:ZaG (Zd.mk d1 f1 ss1 d2 f2 ss2 st)
 ·have HR:=Lib.hid (ZhT hdk)
  simp only [hdk] at hok
  have HOK:=Zk hok
  have HCP:=Zk hcp
  clear hok hcp hD hdk
  go_enter Tryz.func227,Tryz.ntmps227
  go_wp2_with fail
  generalize e_:(World.alloc _ _)=w1
  symm at e_
  have qna:=hkq e_ (Zb (bnk w.heap.size) _)
  have qoa:=hkq e_ (bnk (w.heap.size+1))
  have qea:Below w.heap.size w w1:=by rw [e_];exact bel
  have qcb:=qea.size
  have qkc:w.heap.size+2≤w1.heap.size:=(by rw [e_];simp;try omega)
  clear e_
  refine (Ze HCP _ qea).mono ?_
  rintro e w2 ⟨A1_o,c1_o,A2_o,c2_o,A3_o,c3_o,rfl,hon,qda⟩
  have qia:=Za qna qda
  have qpa:=Za qoa qda
  have qdb:Below w.heap.size w w2:=qea.trans (Below.mono qda qcb)
  have qmb:=qdb.size
  have qlc:w1.heap.size≤w2.heap.size:=qda.size
  clear qna qoa qea qcb qda
  have qqa:=hon
  clear hon
  obtain ⟨qua,qva,qwa,qxa,qya,qza,qab,qbb⟩:=Zbh qia
  go_wp2_with fail
  clear qua qva qwa qxa qya qza qab qbb
  generalize e_:(World.alloc _ _)=w3
  symm at e_
  have qra:=hkq e_ (Zb qia _)
  have qsa:=hkq e_ (Zb qpa _)
  have qta:=hkq e_ (bnk w2.heap.size)
  have qja:=(qqa.alloc (.cells #[.int .i64 d1,.int .i64 f1,.slice A1_o ss1.length c1_o,.int .i64 d2,.int .i64 f2,.slice A2_o ss2.length c2_o,.slice A3_o st.length c3_o] 29))
  rw [← e_] at qja
  have qfa:Below w.heap.size w w3:=by rw [e_];exact bel
  have qeb:=qfa.size
  have qmc:w2.heap.size+1≤w3.heap.size:=(by rw [e_];simp;try omega)
  clear e_
  clear qia qpa qqa qdb qmb
  refine (Ze HOK _ qfa).mono ?_
  rintro e w4 ⟨rfl,qca⟩
  have qka:=Za qra qca
  have qaa:=Za qsa qca
  have qba:=Za qta qca
  have qfb:=qja.below qca
  have qga:Below w.heap.size w w4:=qfa.trans (Below.mono qca qeb)
  have qob:=qga.size
  have qnc:w3.heap.size≤w4.heap.size:=qca.size
  clear qra qsa qta qja qfa qeb qca
  obtain ⟨qsc,qtc,quc,qvc,qwc,qxc,qyc,qzc⟩:=Zbh qaa
  have hfz0_r:=(Zc qaa 0).2
  have hfz1_r:=(Zc qaa 1).2
  have hfz2_r:=(Zc qaa 2).2
  have hfz3_r:=(Zc qaa 3).2
  have hfz4_r:=(Zc qaa 4).2
  have hfz5_r:=(Zc qaa 5).2
  have hfz6_r:=(Zc qaa 6).2
  obtain ⟨qvb,qwb,qxb,qyb,qzb,qac,qbc,qcc⟩:=Zbh qba
  have hfz0_o:=(Zc qba 0).2
  have hfz1_o:=(Zc qba 1).2
  have hfz2_o:=(Zc qba 2).2
  have hfz3_o:=(Zc qba 3).2
  have hfz4_o:=(Zc qba 4).2
  have hfz5_o:=(Zc qba 5).2
  have hfz6_o:=(Zc qba 6).2
  go_wp2
  refine bodyPost_ret (v:=.tuple #[.agg #[.int .i64 d1,.int .i64 f1,.slice A1_o ss1.length c1_o,.int .i64 d2,.int .i64 f2,.slice A2_o ss2.length c2_o,.slice A3_o st.length c3_o],.bool false]) (by simp [results,Tryz.results227,go_sem, *]) rfl ?_
  have qdc:=Zl qka
  have qec:=Zl qaa
  have qfc:=Zl qba
  refine Zed HR.out (ZdV.weak ?_)
  exact ⟨A1_o,c1_o,A2_o,c2_o,A3_o,c3_o,rfl,(qfb.boxy (by repeat (first|(with_reducible exact Zj.refl _)|(with_reducible refine Zj.drew ?_)|(with_reducible refine Zj.drewN ?_ _)|(with_reducible refine Zj.alloc ?_ _)|((with_reducible refine Zj.setCell ?_ ?hbs _);(case hbs=>first|(with_reducible exact .inl (by assumption))|exact .inl (by assumption)|exact .inr (by simp)|exact .inr (by simp;omega)))))).wide (by omega) (by simp;try omega),(((((((qga.setCell (p:=⟨w.heap.size+1,0,none⟩) (by show w.heap.size≤w.heap.size+1;omega) _).setCell (p:=⟨w.heap.size+1,1,none⟩) (by show w.heap.size≤w.heap.size+1;omega) _).setCell (p:=⟨w.heap.size+1,2,none⟩) (by show w.heap.size≤w.heap.size+1;omega) _).setCell (p:=⟨w.heap.size+1,3,none⟩) (by show w.heap.size≤w.heap.size+1;omega) _).setCell (p:=⟨w.heap.size+1,4,none⟩) (by show w.heap.size≤w.heap.size+1;omega) _).setCell (p:=⟨w.heap.size+1,5,none⟩) (by show w.heap.size≤w.heap.size+1;omega) _).setCell (p:=⟨w.heap.size+1,6,none⟩) (by show w.heap.size≤w.heap.size+1;omega) _)⟩
 ·rcases List.eq_nil_or_concat st with hst|⟨l,sl,hst⟩
  ·have HR:=Lib.hid (Zg2 (D:=Zd.mk d1 f1 ss1 d2 f2 ss2 st) hst)
   simp only [hdk] at hok
   have HOK:=Zk hok
   have HCP:=Zk hcp
   have HL0:Hid (st.length=0):=by unfold Hid;rw [hst];rfl
   clear hok hcp hD hdk hst
   go_enter Tryz.func227,Tryz.ntmps227
   go_wp2_with fail
   generalize e_:(World.alloc _ _)=w1
   symm at e_
   have qna:=hkq e_ (Zb (bnk w.heap.size) _)
   have qoa:=hkq e_ (bnk (w.heap.size+1))
   have qea:Below w.heap.size w w1:=by rw [e_];exact bel
   have qcb:=qea.size
   have qkc:w.heap.size+2≤w1.heap.size:=(by rw [e_];simp;try omega)
   clear e_
   refine (Ze HCP _ qea).mono ?_
   rintro e w2 ⟨A1_o,c1_o,A2_o,c2_o,A3_o,c3_o,rfl,hon,qda⟩
   have qia:=Za qna qda
   have qpa:=Za qoa qda
   have qdb:Below w.heap.size w w2:=qea.trans (Below.mono qda qcb)
   have qmb:=qdb.size
   have qlc:w1.heap.size≤w2.heap.size:=qda.size
   clear qna qoa qea qcb qda
   have qqa:=hon
   clear hon
   obtain ⟨qua,qva,qwa,qxa,qya,qza,qab,qbb⟩:=Zbh qia
   go_wp2_with fail
   clear qua qva qwa qxa qya qza qab qbb
   generalize e_:(World.alloc _ _)=w3
   symm at e_
   have qra:=hkq e_ (Zb qia _)
   have qsa:=hkq e_ (Zb qpa _)
   have qta:=hkq e_ (bnk w2.heap.size)
   have qja:=(qqa.alloc (.cells #[.int .i64 d1,.int .i64 f1,.slice A1_o ss1.length c1_o,.int .i64 d2,.int .i64 f2,.slice A2_o ss2.length c2_o,.slice A3_o st.length c3_o] 29))
   rw [← e_] at qja
   have qfa:Below w.heap.size w w3:=by rw [e_];exact bel
   have qeb:=qfa.size
   have qmc:w2.heap.size+1≤w3.heap.size:=(by rw [e_];simp;try omega)
   clear e_
   clear qia qpa qqa qdb qmb
   refine (Ze HOK _ qfa).mono ?_
   rintro e w4 ⟨rfl,qca⟩
   have qka:=Za qra qca
   have qaa:=Za qsa qca
   have qba:=Za qta qca
   have qfb:=qja.below qca
   have qga:Below w.heap.size w w4:=qfa.trans (Below.mono qca qeb)
   have qob:=qga.size
   have qnc:w3.heap.size≤w4.heap.size:=qca.size
   clear qra qsa qta qja qfa qeb qca
   obtain ⟨qua,qva,qwa,qxa,qya,qza,qab,qbb⟩:=Zbh qka
   have hl0:=HL0.out
   go_upto_region 4 with fail
   clear hl0
   clear qua qva qwa qxa qya qza qab qbb
   obtain ⟨qsc,qtc,quc,qvc,qwc,qxc,qyc,qzc⟩:=Zbh qaa
   have hfz0_r:=(Zc qaa 0).2
   have hfz1_r:=(Zc qaa 1).2
   have hfz2_r:=(Zc qaa 2).2
   have hfz3_r:=(Zc qaa 3).2
   have hfz4_r:=(Zc qaa 4).2
   have hfz5_r:=(Zc qaa 5).2
   have hfz6_r:=(Zc qaa 6).2
   obtain ⟨qvb,qwb,qxb,qyb,qzb,qac,qbc,qcc⟩:=Zbh qba
   have hfz0_o:=(Zc qba 0).2
   have hfz1_o:=(Zc qba 1).2
   have hfz2_o:=(Zc qba 2).2
   have hfz3_o:=(Zc qba 3).2
   have hfz4_o:=(Zc qba 4).2
   have hfz5_o:=(Zc qba 5).2
   have hfz6_o:=(Zc qba 6).2
   go_wp2
   refine bodyPost_ret (v:=.tuple #[.agg #[.int .i64 d1,.int .i64 f1,.slice A1_o ss1.length c1_o,.int .i64 d2,.int .i64 f2,.slice A2_o ss2.length c2_o,.slice A3_o st.length c3_o],.bool false]) (by simp [results,Tryz.results227,go_sem, *]) rfl ?_
   have qdc:=Zl qka
   have qec:=Zl qaa
   have qfc:=Zl qba
   refine Zed HR.out (ZdV.weak ?_)
   exact ⟨A1_o,c1_o,A2_o,c2_o,A3_o,c3_o,rfl,(qfb.boxy (by repeat (first|(with_reducible exact Zj.refl _)|(with_reducible refine Zj.drew ?_)|(with_reducible refine Zj.drewN ?_ _)|(with_reducible refine Zj.alloc ?_ _)|((with_reducible refine Zj.setCell ?_ ?hbs _);(case hbs=>first|(with_reducible exact .inl (by assumption))|exact .inl (by assumption)|exact .inr (by simp)|exact .inr (by simp;omega)))))).wide (by omega) (by simp;try omega),(((((((qga.setCell (p:=⟨w.heap.size+1,0,none⟩) (by show w.heap.size≤w.heap.size+1;omega) _).setCell (p:=⟨w.heap.size+1,1,none⟩) (by show w.heap.size≤w.heap.size+1;omega) _).setCell (p:=⟨w.heap.size+1,2,none⟩) (by show w.heap.size≤w.heap.size+1;omega) _).setCell (p:=⟨w.heap.size+1,3,none⟩) (by show w.heap.size≤w.heap.size+1;omega) _).setCell (p:=⟨w.heap.size+1,4,none⟩) (by show w.heap.size≤w.heap.size+1;omega) _).setCell (p:=⟨w.heap.size+1,5,none⟩) (by show w.heap.size≤w.heap.size+1;omega) _).setCell (p:=⟨w.heap.size+1,6,none⟩) (by show w.heap.size≤w.heap.size+1;omega) _)⟩
  ·rw [List.concat_eq_append] at hst
   obtain ⟨K,F,L,T,I,bs,as_⟩:=sl
   have HST:=Lib.hid hst
   have HR:=Lib.hid (show ZaE (Zd.mk d1 f1 ss1 d2 f2 ss2 st)=(⟨d1,f1,ss1,d2,f2,(Zab false d2 f2 ss2 K F L T I bs as_).1,l⟩,true) by rw [hst] at hdk ⊢;exact Zg5 hdk)
   have hbk:=Zmm (D:=Zd.mk d1 f1 ss1 d2 f2 ss2 st) hst hdk
   simp only at hbk
   simp only [hdk] at hok
   have hz:=h3.sb (Zv.mk K F L T I bs as_) (by rw [hst];simp)
   simp only at hz
   obtain ⟨M,hM⟩:∃ M,M=l.length:=⟨_,rfl⟩
   have hNM:st.length=M+1:=by rw [hst,hM];simp
   have hMN:M<st.length:=by omega
   obtain ⟨hk9,ad,hade,hab,hc0,hc1,hc2,hc3,hc4,hc5,hc6,hz8,hz9⟩:=h3.at_ hMN
   have hel:st[M]=(Zv.mk K F L T I bs as_):=by subst hst;subst hM;simp
   rw [hel] at hc0 hc1 hc2 hc3 hc4 hc5 hc6
   simp only at hc0 hc1 hc2 hc3 hc4 hc5 hc6
   subst hade
   have hsb:=fun (W:World) (hW:Below w.heap.size w W)=>(ZlB d2 f2 B A2 _ c2 ss2 K F L T I bs as_ W (h2.below (hW.mono hB)) (Nat.le_trans hB hW.size) hz.1 hz.2).mono fun _ _ h=>ZdD.of h
   rw [hbk] at hsb
   generalize (Zab false d2 f2 ss2 K F L T I bs as_).1=sn at hsb HR
   have hwm:IntKind.i64.wrap ((st.length:Int) - 1)=(M:Int):=by rw [show (st.length:Int) - 1=(M:Int) by omega,IntWalk.i64_in _ (by omega)]
   have hi0_:(0:Int)≤(M:Int):=by omega
   have hi1_:(M:Int)<(st.length:Int):=by omega
   have hn0:((st.length:Int)==0)=false:=by rw [beq_eq_false_iff_ne];omega
   have hNne:¬st.length=0:=by omega
   have hNnil:¬st=[]:=by intro h;rw [h] at hNne;exact hNne rfl
   have hq1:(ad.add (M * 7)).block<w.heap.size:=by rw [Zn];omega
   have HOK:=Zk hok
   have HCP:=Zk hcp
   have HSB:=Zk hsb
   have HM:=Lib.hid hM
   have HNM:=Lib.hid hNM
   clear hok hcp hsb hD hdk hbk hel hz8 hz9 hk9 h3 hz hst hM hNM
   go_enter Tryz.func227,Tryz.ntmps227
   go_wp2_with fail
   generalize e_:(World.alloc _ _)=w1
   symm at e_
   have qna:=hkq e_ (Zb (bnk w.heap.size) _)
   have qoa:=hkq e_ (bnk (w.heap.size+1))
   have qea:Below w.heap.size w w1:=by rw [e_];exact bel
   have qcb:=qea.size
   have qkc:w.heap.size+2≤w1.heap.size:=(by rw [e_];simp;try omega)
   clear e_
   refine (Ze HCP _ qea).mono ?_
   rintro e w2 ⟨A1_o,c1_o,A2_o,c2_o,A3_o,c3_o,rfl,hon,qda⟩
   have qia:=Za qna qda
   have qpa:=Za qoa qda
   have qdb:Below w.heap.size w w2:=qea.trans (Below.mono qda qcb)
   have qmb:=qdb.size
   have qlc:w1.heap.size≤w2.heap.size:=qda.size
   clear qna qoa qea qcb qda
   have qqa:=hon
   clear hon
   obtain ⟨qua,qva,qwa,qxa,qya,qza,qab,qbb⟩:=Zbh qia
   go_wp2_with fail
   clear qua qva qwa qxa qya qza qab qbb
   generalize e_:(World.alloc _ _)=w3
   symm at e_
   have qra:=hkq e_ (Zb qia _)
   have qsa:=hkq e_ (Zb qpa _)
   have qta:=hkq e_ (bnk w2.heap.size)
   have qja:=(qqa.alloc (.cells #[.int .i64 d1,.int .i64 f1,.slice A1_o ss1.length c1_o,.int .i64 d2,.int .i64 f2,.slice A2_o ss2.length c2_o,.slice A3_o st.length c3_o] 29))
   rw [← e_] at qja
   have qfa:Below w.heap.size w w3:=by rw [e_];exact bel
   have qeb:=qfa.size
   have qmc:w2.heap.size+1≤w3.heap.size:=(by rw [e_];simp;try omega)
   clear e_
   clear qia qpa qqa qdb qmb
   refine (Ze HOK _ qfa).mono ?_
   rintro e w4 ⟨rfl,qca⟩
   have qka:=Za qra qca
   have qaa:=Za qsa qca
   have qba:=Za qta qca
   have qfb:=qja.below qca
   have qga:Below w.heap.size w w4:=qfa.trans (Below.mono qca qeb)
   have qob:=qga.size
   have qnc:w3.heap.size≤w4.heap.size:=qca.size
   clear qra qsa qta qja qfa qeb qca
   obtain ⟨qua,qva,qwa,qxa,qya,qza,qab,qbb⟩:=Zbh qka
   go_upto_region 5 with fail
   clear qua qva qwa qxa qya qza qab qbb
   obtain ⟨qua,qva,qwa,qxa,qya,qza,qab,qbb⟩:=Zbh qka
   have hd0_:=(qga.cell (p:=(ad.add (M * 7))) hq1).trans hc0
   have hd1_:=(qga.cell (p:=⟨(ad.add (M * 7)).block,(ad.add (M * 7)).off+1,none⟩) hq1).trans hc1
   have hd2_:=(qga.cell (p:=⟨(ad.add (M * 7)).block,(ad.add (M * 7)).off+2,none⟩) hq1).trans hc2
   have hd3_:=(qga.cell (p:=⟨(ad.add (M * 7)).block,(ad.add (M * 7)).off+3,none⟩) hq1).trans hc3
   have hd4_:=(qga.cell (p:=⟨(ad.add (M * 7)).block,(ad.add (M * 7)).off+4,none⟩) hq1).trans hc4
   have hd5_:=(qga.cell (p:=⟨(ad.add (M * 7)).block,(ad.add (M * 7)).off+5,none⟩) hq1).trans hc5
   have hd6_:=(qga.cell (p:=⟨(ad.add (M * 7)).block,(ad.add (M * 7)).off+6,none⟩) hq1).trans hc6
   have hq2:(ad.add (M * 7)).block<w4.heap.size:=by omega
   go_cut [6,7] (fun sa sb wx=>∃ (g_n:Nat) (A_n:Option Addr) (c_n:Nat),sa=.pointer (some ⟨g_n,0,none⟩)∧sb=.bool true∧wx.heap[g_n]?=some (.cells #[.int .i64 d2,.int .i64 f2,.slice A_n sn.length c_n] 26 (0,0))∧Zaa wx w4.heap.size wx.heap.size A_n c_n sn∧w4.heap.size≤g_n∧Below w4.heap.size w4 wx)
   case first =>
    go_region_held3 (fun W=>(∀ p:Addr,p.block<w4.heap.size→W.cell? p=(w4).cell? p)∧(∀ p:Addr,p.block<w4.heap.size→W.frozen? p=(w4).frozen? p)∧Below (w4.heap.size) (w4) W) (exact Zam bel) (first|(go_at_call 262;have hq:=(‹_∧_∧Below _ _ _›).2.2;refine (Ze HSB _ (qga.trans (hq.mono qob))).mono ?_;rintro e wf ⟨A_q,c_q,rfl,hor,hbf⟩;(have hof:=hor.wide (lo':=w4.heap.size) (hi':=wf.heap.size) hq.size (Nat.le_refl _));clear hor;have hqsf:=hq.size;have hbsf:=hbf.size;(try simp at hqsf);(try simp at hbsf);obtain ⟨hcbf,hfbf⟩:=Zw hbf;(try (have qwd:w4.heap.size<wf.heap.size:=(by omega)))))
    all_goals (go_wp2_with fail)
    all_goals (go_meet)
    all_goals (
     refine ⟨_,A_q,c_q,rfl,rfl,?_,?_,?_,?_⟩
     first
      |exact Zy _ _
      |exact Zep (by first|exact Za (Zy _ _) hbf|exact Za (ZaK (Zy _ _)) hbf) _ _ _
     first
      |exact (hof.alloc _).wide (Nat.le_refl _) (by simp)
      |exact (hof.box (by first|exact Za (Zy _ _) hbf|exact Za (ZaK (Zy _ _)) hbf) (by decide) (by repeat (first|(with_reducible exact World.grownBy.refl _ _)|(refine ZdA ?_ (.inl rfl) _)))).wide (Nat.le_refl _) (by simp [World.setCell])
     (first|exact Nat.le_refl _|omega|(simp;done)|(simp;omega))
     exact bel)
   obtain ⟨g_n,A_n,c_n,rfl,rfl,hkn,hon,hgn,hbX⟩:=hcut
   obtain ⟨w5,hwc⟩:∃ W,W=wc:=⟨_,rfl⟩
   subst hwc
   clear hd0_ hd1_ hd2_ hd3_ hd4_ hd5_ hd6_ hq2
   clear qua qva qwa qxa qya qza qab qbb
   have qhb:=Za qka hbX
   have qib:=Za qaa hbX
   have qha:=Za qba hbX
   have qsb:=qfb.below hbX
   have qgc:Below w.heap.size w w5:=qga.trans (Below.mono hbX qob)
   have qrc:=qgc.size
   have qkd:w4.heap.size≤w5.heap.size:=hbX.size
   clear qka qaa qba qfb qga qob hbX
   have qtb:=hon
   clear hon
   have qqc:=hkn
   clear hkn
   obtain ⟨qvb,qwb,qxb,qyb,qzb,qac,qbc,qcc⟩:=Zbh qha
   have hfz0_o:=(Zc qha 0).2
   have hfz1_o:=(Zc qha 1).2
   have hfz2_o:=(Zc qha 2).2
   have hfz3_o:=(Zc qha 3).2
   have hfz4_o:=(Zc qha 4).2
   have hfz5_o:=(Zc qha 5).2
   have hfz6_o:=(Zc qha 6).2
   obtain ⟨qqd,qrd,qsd,qtd⟩:=Za8 qqc
   go_upto_region 7 with fail
   clear qvb qwb qxb qyb qzb qac qbc qcc hfz0_o hfz1_o hfz2_o hfz3_o hfz4_o hfz5_o hfz6_o qqd qrd qsd qtd
   have qdc:=Zl qhb
   have qec:=Zl qib
   have qfc:=Zl qha
   have qid:=Zl qqc
   have hgl_d:=Zg qhb
   have hgl_r:=Zg qib
   have hgl_o:=Zg qha
   have hgl_n:=Zg qqc
   have qoc:=(Zf (p:=⟨w2.heap.size,5,none⟩) (Zf (p:=⟨w2.heap.size,4,none⟩) (Zf (p:=⟨w2.heap.size,3,none⟩) qhb (by show _≠w2.heap.size;omega) (.int .i64 d2)) (by show _≠w2.heap.size;omega) (.int .i64 f2)) (by show _≠w2.heap.size;omega) (.slice A_n sn.length c_n))
   have qma:=(Zf (p:=⟨w2.heap.size,5,none⟩) (Zf (p:=⟨w2.heap.size,4,none⟩) (Zf (p:=⟨w2.heap.size,3,none⟩) qib (by show _≠w2.heap.size;omega) (.int .i64 d2)) (by show _≠w2.heap.size;omega) (.int .i64 f2)) (by show _≠w2.heap.size;omega) (.slice A_n sn.length c_n))
   have qla:(((w5.setCell ⟨w2.heap.size,3,none⟩ (.int .i64 d2)).setCell ⟨w2.heap.size,4,none⟩ (.int .i64 f2)).setCell ⟨w2.heap.size,5,none⟩ (.slice A_n sn.length c_n)).heap[w2.heap.size]?=some (.cells #[.int .i64 d1,.int .i64 f1,.slice A1_o ss1.length c1_o,.int .i64 d2,.int .i64 f2,.slice A_n sn.length c_n,.slice A3_o st.length c3_o] 29 (0,0)):=by simpa using (Zu (Zu (Zu qha 3 (.int .i64 d2)) 4 (.int .i64 f2)) 5 (.slice A_n sn.length c_n))
   have qpc:=(Zf (p:=⟨w2.heap.size,5,none⟩) (Zf (p:=⟨w2.heap.size,4,none⟩) (Zf (p:=⟨w2.heap.size,3,none⟩) qqc (by show _≠w2.heap.size;omega) (.int .i64 d2)) (by show _≠w2.heap.size;omega) (.int .i64 f2)) (by show _≠w2.heap.size;omega) (.slice A_n sn.length c_n))
   have qgb:=(qsb.boxy (w':=(((w5.setCell ⟨w2.heap.size,3,none⟩ (.int .i64 d2)).setCell ⟨w2.heap.size,4,none⟩ (.int .i64 f2)).setCell ⟨w2.heap.size,5,none⟩ (.slice A_n sn.length c_n))) (by repeat (first|(with_reducible exact Zj.refl _)|(with_reducible refine Zj.drew ?_)|(with_reducible refine Zj.drewN ?_ _)|(with_reducible refine Zj.alloc ?_ _)|((with_reducible refine Zj.setCell ?_ ?hbs _);(case hbs=>first|(with_reducible exact .inl (by assumption))|exact .inl (by assumption)|exact .inr (by simp)|exact .inr (by simp;omega))))))
   have qub:=(qtb.boxy (w':=(((w5.setCell ⟨w2.heap.size,3,none⟩ (.int .i64 d2)).setCell ⟨w2.heap.size,4,none⟩ (.int .i64 f2)).setCell ⟨w2.heap.size,5,none⟩ (.slice A_n sn.length c_n))) (by repeat (first|(with_reducible exact Zj.refl _)|(with_reducible refine Zj.drew ?_)|(with_reducible refine Zj.drewN ?_ _)|(with_reducible refine Zj.alloc ?_ _)|((with_reducible refine Zj.setCell ?_ ?hbs _);(case hbs=>first|(with_reducible exact .inl (by assumption))|exact .inl (by assumption)|exact .inr (by simp)|exact .inr (by simp;omega))))))
   have qic:Below w.heap.size w (((w5.setCell ⟨w2.heap.size,3,none⟩ (.int .i64 d2)).setCell ⟨w2.heap.size,4,none⟩ (.int .i64 f2)).setCell ⟨w2.heap.size,5,none⟩ (.slice A_n sn.length c_n)):=bel
   have qld:=qic.size
   have qmd:w5.heap.size+0≤(((w5.setCell ⟨w2.heap.size,3,none⟩ (.int .i64 d2)).setCell ⟨w2.heap.size,4,none⟩ (.int .i64 f2)).setCell ⟨w2.heap.size,5,none⟩ (.slice A_n sn.length c_n)).heap.size:=(by simp;try omega)
   clear qdc qec qfc qid
   generalize (((w5.setCell ⟨w2.heap.size,3,none⟩ (.int .i64 d2)).setCell ⟨w2.heap.size,4,none⟩ (.int .i64 f2)).setCell ⟨w2.heap.size,5,none⟩ (.slice A_n sn.length c_n))=w6 at *
   clear qhb qib qha qqc qsb qtb qgc qrc
   have hcap:st.length≤c3_o∧c3_o≤9223372036854775807:=Zk1 qgb.o3.row
   obtain ⟨g3,cap3,hv3,_,_⟩:=qgb.o3.row.form (by show 0<st.length;omega)
   have hA3:A3_o=some ⟨g3,0,none⟩:=by injection hv3
   subst hA3
   clear hv3
   have hb0_:(M:Int)≤(c3_o:Int):=by omega
   have hb1_:(0:Int)≤(M:Int):=by omega
   obtain ⟨qsc,qtc,quc,qvc,qwc,qxc,qyc,qzc⟩:=Zbh qma
   have hfz0_r:=(Zc qma 0).2
   have hfz1_r:=(Zc qma 1).2
   have hfz2_r:=(Zc qma 2).2
   have hfz3_r:=(Zc qma 3).2
   have hfz4_r:=(Zc qma 4).2
   have hfz5_r:=(Zc qma 5).2
   have hfz6_r:=(Zc qma 6).2
   obtain ⟨qvb,qwb,qxb,qyb,qzb,qac,qbc,qcc⟩:=Zbh qla
   have hfz0_o:=(Zc qla 0).2
   have hfz1_o:=(Zc qla 1).2
   have hfz2_o:=(Zc qla 2).2
   have hfz3_o:=(Zc qla 3).2
   have hfz4_o:=(Zc qla 4).2
   have hfz5_o:=(Zc qla 5).2
   have hfz6_o:=(Zc qla 6).2
   go_wp2
   refine bodyPost_ret (v:=.tuple #[.agg #[.int .i64 d1,.int .i64 f1,.slice A1_o ss1.length c1_o,.int .i64 d2,.int .i64 f2,.slice A_n sn.length c_n,.slice (some ⟨g3,0,none⟩) M c3_o],.bool true]) (by simp [results,Tryz.results227,go_sem, *]) rfl ?_
   have qdc:=Zl qoc
   have qec:=Zl qma
   have qfc:=Zl qla
   have qid:=Zl qpc
   refine Zed HR.out ?_
   have hpre:=Zhd (m:=M) qgb.o3.row (by show M≤st.length;omega)
   have htl:st.take M=l:=by rw [HST.out,HM.out];simp
   simp only [Zeg Zdc,htl] at hpre
   rw [HM.out] at hpre
   show ∃ B1 e1 B2 e2 B3 e3,_=_∧_∧_
   refine ⟨A1_o,c1_o,A_n,c_n,some ⟨g3,0,none⟩,c3_o,?_,⟨(qgb.o1.boxy (by repeat (first|(with_reducible exact Zj.refl _)|(with_reducible refine Zj.drew ?_)|(with_reducible refine Zj.drewN ?_ _)|(with_reducible refine Zj.alloc ?_ _)|((with_reducible refine Zj.setCell ?_ ?hbs _);(case hbs=>first|(with_reducible exact .inl (by assumption))|exact .inl (by assumption)|exact .inr (by simp)|exact .inr (by simp;omega)))))).wide (by omega) (by simp;try omega),(qub.boxy (by repeat (first|(with_reducible exact Zj.refl _)|(with_reducible refine Zj.drew ?_)|(with_reducible refine Zj.drewN ?_ _)|(with_reducible refine Zj.alloc ?_ _)|((with_reducible refine Zj.setCell ?_ ?hbs _);(case hbs=>first|(with_reducible exact .inl (by assumption))|exact .inl (by assumption)|exact .inr (by simp)|exact .inr (by simp;omega)))))).wide (by omega) (by simp;try omega),⟨c3_o,((ZbN.mk hpre (fun k hk=>qgb.o3.top k hk)).boxy (by repeat (first|(with_reducible exact Zj.refl _)|(with_reducible refine Zj.drew ?_)|(with_reducible refine Zj.drewN ?_ _)|(with_reducible refine Zj.alloc ?_ _)|((with_reducible refine Zj.setCell ?_ ?hbs _);(case hbs=>first|(with_reducible exact .inl (by assumption))|exact .inl (by assumption)|exact .inr (by simp)|exact .inr (by simp;omega)))))).wide (by omega) (by simp;try omega)⟩,?_⟩,?_⟩
   ·rw [HM.out]
   ·exact fun k hk hk2=>by have a:=qgb.o1.top k hk;have b:=(qub.row.lt k hk2).1;omega
   ·exact bel
end Go.Proofs.YtlimlolciekimaaGreatDoor
