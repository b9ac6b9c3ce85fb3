/- Contracts of the program's and the reference's functions (Ctx1, Ctx2p, Ctx2, Ctx3). -/
import Derived.BigQuiet
import Derived.Deep.CutRange
import Derived.Deep.DeepCutAuto
import Derived.Lib.QuietBelow
import Derived.Test.YtlimlolciekimaaGreatDoorRows
import Derived.Test.YtlimlolciekimaaGreatDoorQUao
import Derived.Test.YtlimlolciekimaaGreatDoorQUal
import Derived.Test.YtlimlolciekimaaGreatDoorQUb
import Derived.Test.YtlimlolciekimaaGreatDoorQUz
import Derived.Test.YtlimlolciekimaaGreatDoorQUn
import Derived.Test.YtlimlolciekimaaGreatDoorQUm
import Derived.Test.YtlimlolciekimaaGreatDoorQUw
namespace Go.Proofs.YtlimlolciekimaaGreatDoor
set_option maxHeartbeats 1600000
open Go.ChangeShapes Go.WideShapes Go.ChangeAt Go.RowKit
set_option linter.unusedVariables false
set_option linter.unusedSimpArgs false
set_option maxRecDepth 10000
theorem inBx {x a b:Int}:inB x a b=true↔a≤x∧x≤b:=by simp [inB]
theorem sc_sz {s:ByteArray} (h:isStrip s.data.toList=true):s.size≤16:=by
 unfold isStrip inB at h
 simp at h
 have:s.data.toList.length=s.size:=by simp
 simp at this
 omega
theorem card_bd {d f:Int} {ss:List ByteArray} (h:cardOk d f ss=true):(1≤d∧d≤8∧1≤f∧f≤8)∧(1≤ss.length∧ss.length≤10)∧∀ s∈ss,s.size≤16:=by
 unfold cardOk at h
 simp only [Bool.and_eq_true,List.all_eq_true] at h
 obtain ⟨⟨h1,h2⟩,h3,h4⟩:=h
 have e1:=inBx.1 h1
 have e2:=inBx.1 h2
 have e3:=inBx.1 h3
 refine ⟨⟨by omega,by omega,by omega,by omega⟩,⟨by omega,by omega⟩,fun s hs=>?_⟩
 have hs2:=h4 s hs
 unfold stripOf downOf at hs2
 by_cases hi:isStrip s.data.toList=true
 ·exact sc_sz hi
 ·rw [if_neg hi] at hs2
  simp at hs2
  omega
theorem card_nat {d f:Int} {ss:List ByteArray} (h:cardOk d f ss=true):∃ D F:Nat,d=D∧f=F∧D≤8∧F≤8∧1≤ss.length∧ss.length≤10∧∀ s∈ss,s.size≤16:=by
 have hb:=card_bd h
 exact ⟨d.toNat,f.toNat,by omega,by omega,by omega,by omega,hb.2.1.1,hb.2.1.2,hb.2.2⟩
theorem numT10 {n:Nat} (h:n≤1000000000):(numT n).size≤10:=by
 have:(numT n).size=(numT n).data.toList.length:=by rw [Array.length_toList];rfl
 rw [this];exact dec_len h
set_option maxHeartbeats 3200000 in
theorem i_CardText (D F:Nat) (g:Nat) (n c:Nat) (ss:List ByteArray) (w:World) (hc:cardOk D F ss=true) (hS:Strs w w.heap.size (some ⟨g,0,none⟩) n ss) (hT:Tab w) (hnc:n≤c) :
  Calls Tryz.prog 43 #[.agg #[.int .i64 (D:Int),.int .i64 (F:Int),.slice (some ⟨g,0,none⟩) n c]] w fun e w'=>e=.returned (.string (cardT D F ss))∧Below w.heap.size w w':=by
 obtain ⟨D',F',hD,hF,hD8,hF8,hn1,hn10,hz⟩:=card_nat hc
 obtain rfl:D=D':=by omega
 obtain rfl:F=F':=by omega
 have hlen:=hS.len
 have HC:=Lib.hid hc
 clear hD hF hc
 go_enter Tryz.func43,Tryz.ntmps43
 go_wp2_with fail
 have kb:=blk_new w (.cells #[.int .i64 (D:Int),.int .i64 (F:Int),.slice (some ⟨g,0,none⟩) n c] 26)
 have hb0:Below w.heap.size w (w.alloc (.cells #[.int .i64 (D:Int),.int .i64 (F:Int),.slice (some ⟨g,0,none⟩) n c] 26)):=bel
 have hS0:=(hS.alloc (Nat.le_refl _) (.cells #[.int .i64 (D:Int),.int .i64 (F:Int),.slice (some ⟨g,0,none⟩) n c] 26))
 generalize (w.alloc (.cells #[.int .i64 (D:Int),.int .i64 (F:Int),.slice (some ⟨g,0,none⟩) n c] 26))=w0 at *
 have hs0:=hb0.size
 refine (i_CardOk _ _ _ _ _ ss _ (hS0.more hs0)).mono ?_
 rw [HC.out]
 rintro e w1 ⟨rfl,hb1⟩
 have k1:=blk_next kb hb1
 have hS1:=(hS0.more hs0).below hb1
 have hB1:=hb0.trans (hb1.mono hs0)
 have hs1:=hb1.size
 obtain ⟨x0,x1,x2,xl⟩:=blk3 k1
 have r0:=cell_regrown x0
 have r1:=cell_regrown x1
 have r2:=cell_regrown x2
 have hT1:=hT.below hB1
 have hl1:n≤16777216:=hS.nb
 obtain ⟨adx,hadx,hgb,hcel⟩:=hS1.rd.2 (by omega)
 have hadx:=Option.some.inj hadx
 subst hadx
 have zw:∀ d_ os,Below w1.heap.size w1 (Go.Sort.grow (redrawn w1 d_) os):=fun d_ os=>below_regrown w1 d_ os
 have kD:=fun d_ os=>Calls.regrown_of (w:=w1) (d:=d_) (os:=os) (i_FormatInt D (Go.Sort.grow (redrawn w1 d_) os) (by omega) (hT1.below (zw d_ os)))
 have kF:=fun d_ os=>Calls.regrown_of (w:=w1) (d:=d_) (os:=os) (i_FormatInt F (Go.Sort.grow (redrawn w1 d_) os) (by omega) (hT1.below (zw d_ os)))
 have hjz:=joinB_size hz
 rw [hlen] at hjz
 have kJ:=fun d_ os=>Calls.regrown_of (w:=w1) (d:=d_) (os:=os) (v:=.string (joinB ss)) (by
  have hJ:=Tryz.strings_Join g 0 c ss ⟨#[32]⟩ (Go.Sort.grow (redrawn w1 d_) os) (fun j x hx=>by
   have h:=hcel j (.string x) (by rw [List.getElem?_map,hx];rfl)
   have e:(⟨g,0,none⟩:Addr).add j=⟨g,0+j,none⟩:=by
    unfold Addr.add
    split
    ·rename_i h;subst h;rfl
    ·rfl
   rw [e] at h
   exact ((zw d_ os).cell (p:=⟨g,0+j,none⟩) (by show g<_;exact Nat.lt_of_lt_of_le hgb hs1)).trans h) (Nat.lt_of_lt_of_le (Nat.lt_of_lt_of_le hgb hs1) (zw d_ os).size) (by rw [hlen];omega) (by rw [hlen];exact hnc) (by
   have h2:(Lib.join (ss.map (·.data.toList)) [32]).length=(joinB ss).size:=by
    have:(joinB ss).size=(joinB ss).data.toList.length:=by rw [Array.length_toList];rfl
    rw [this];rfl
   show (Lib.join (ss.map (·.data.toList)) [32]).length≤_
   rw [h2];omega)
  exact hJ)
 have hlen':=hlen
 rw [hlen] at kJ
 have KD:=hide kD
 have KF:=hide kF
 have KJ:=hide kJ
 have hzD:=numT10 (n:=D) (by omega)
 have hzF:=numT10 (n:=F) (by omega)
 have h2z:(⟨#[58,32]⟩:ByteArray).size=2:=rfl
 have ov1:¬9223372036854775807<(numT D).size+(⟨#[120]⟩:ByteArray).size:=by rw [size1];omega
 have ov2:¬9223372036854775807<(numT D++(⟨#[120]⟩:ByteArray)).size+(numT F).size:=by rw [ByteArray.size_append,size1];omega
 have ov3:¬9223372036854775807<(numT D++(⟨#[120]⟩:ByteArray)++numT F).size+(⟨#[58,32]⟩:ByteArray).size:=by rw [ByteArray.size_append,ByteArray.size_append,size1];omega
 have ov4:¬9223372036854775807<(numT D++(⟨#[120]⟩:ByteArray)++numT F++(⟨#[58,32]⟩:ByteArray)).size+(joinB ss).size:=by rw [ByteArray.size_append,ByteArray.size_append,ByteArray.size_append,size1];omega
 clear kD kF kJ hcel hlen hlen' hz h2z
 go_wp2_with fail
 refine wp_region_quiet_below (by kernel_rfl) (lexB_of (by kernel_rfl)) ?_
 try dsimp only [List.append]
 repeat (go_big_quiet_step (first|(go_at_call_of 26 (Value.int .i64 (D:Int));exact KD.out _ _)|(go_at_call_of 26 (Value.int .i64 (F:Int));exact KF.out _ _)|(go_at_call 65;exact KJ.out _ _)))
 refine wpQuiet_nil ?_
 intro _ hw'
 obtain ⟨⟨dq,osq⟩,hw''⟩:=hw'
 subst hw''
 go_wp2
 go_ret
 exact ⟨rfl,hB1.trans ((zw dq osq).mono hB1.size)⟩
def tSteps:ByteArray:=⟨#[115,116,101,112,115,32]⟩
def tCards:ByteArray:=⟨#[99,97,114,100,115]⟩
def tSheets:ByteArray:=⟨#[115,104,101,101,116,115]⟩
def tMoney:ByteArray:=⟨#[109,111,110,101,121,32]⟩
def cardsT (P:List PItem):ByteArray:=tailT tCards (P.map (·.nm))
def sheetN (pp:List PPaper):List ByteArray:=(List.range 10).map fun (k:Nat)=>numT (sheetsL pp (k:Int)).toNat
def sheetsT (pp:List PPaper):ByteArray:=tailT tSheets (sheetN pp)
def shopT (W:PWork):List ByteArray:=[cardT W.D.d2.toNat W.D.f2.toNat W.D.ss2,tSteps++numT W.D.st.length,cardsT W.P,sheetsT W.pp,tMoney++numT W.m.toNat]
theorem nm_size {P:List PItem} (h:catOk P=true):∀ x∈P.map (·.nm),x.size≤12:=by
 intro x hx
 obtain ⟨y,hy,rfl⟩:=List.mem_map.1 hx
 have h1:=((catOk_iff.1 h).2.1 y hy).1
 unfold nameOk at h1
 simp only [Bool.and_eq_true] at h1
 have h2:=inB_iff.1 h1.2
 omega
theorem sheets_bd (pp:List PPaper) (K:Int) (hn:pp.length≤20):0≤sheetsL pp K∧sheetsL pp K≤2000000:=by
 unfold sheetsL
 split
 ·rename_i h
  have:=sumK_bd h K pp.length (Nat.le_refl _)
  omega
 ·omega
theorem sheetN_size (pp:List PPaper) (hn:pp.length≤20):∀ x∈sheetN pp,x.size≤10:=by
 intro x hx
 unfold sheetN at hx
 obtain ⟨k,_,rfl⟩:=List.mem_map.1 hx
 exact numT10 (by have:=sheets_bd pp (k:Int) hn;omega)
theorem sheetN_at (pp:List PPaper) {k:Nat} (hk:k<(sheetN pp).length):(sheetN pp)[k]=numT (sheetsL pp (k:Int)).toNat:=by
 simp only [sheetN,List.getElem_map,List.getElem_range]
theorem sheetN_len (pp:List PPaper):(sheetN pp).length=10:=by unfold sheetN;rw [List.length_map,List.length_range]
set_option maxHeartbeats 6400000 in
theorem i_FormatWorkshop (d1 f1:Int) (ss1:List ByteArray) (d2 f2:Int) (ss2:List ByteArray) (st:List PStep) (P:List PItem) (pp:List PPaper) (m:Int) (lo hi:Nat) (A1 A2 A3 A4 A5:Option Addr) (c1 c2 c3 c4 c5:Nat) (w:World)
  (hW:OwnW w lo hi A1 c1 A2 c2 A3 c3 A4 c4 A5 c5 ⟨d1,f1,ss1,d2,f2,ss2,st⟩ P pp) (hz:OkWork ⟨d1,f1,ss1,d2,f2,ss2,st⟩ P pp 1048576) (hok:workOk ⟨⟨d1,f1,ss1,d2,f2,ss2,st⟩,P,pp,m⟩=true) (hT:Tab w) :
  Calls Tryz.prog 13 #[.agg #[.int .i64 d1,.int .i64 f1,.slice A1 ss1.length c1,.int .i64 d2,.int .i64 f2,.slice A2 ss2.length c2,.slice A3 st.length c3,.slice A4 P.length c4,.slice A5 pp.length c5,.int .i64 m]] w (FreshStrs w.heap.size (shopT ⟨⟨d1,f1,ss1,d2,f2,ss2,st⟩,P,pp,m⟩) w):=by
 have hcard:=draft_card (workOk_iff.1 hok).1
 have hmm:=(workOk_iff.1 hok).2.2.2.2
 simp only at hcard hmm
 obtain ⟨D,F,rfl,rfl,hD8,hF8,hn1,hn10,hz16⟩:=card_nat hcard
 obtain ⟨M,rfl⟩:∃ M:Nat,m=M:=⟨m.toNat,by omega⟩
 obtain ⟨l1,h1,l2,h2,l3,h3,L0,hr0,ha0,x00,hp0,y00,z00⟩:=hW.all
 have o2:OwnS w l1 h1 A2 c2 ss2:=x00.o2
 have hst40:st.length≤40:=(draftOk_iff.1 (workOk_iff.1 hok).1).1.2
 clear hr0 ha0 x00 hp0 y00 z00 L0
 obtain ⟨g,cap,hv,hgb,hgl⟩:=o2.row.form hn1
 have hA:A2=some ⟨g,0,none⟩:=by injection hv
 subst hA
 clear hv
 have hnc:=(own_cap o2.row).1
 have HSH:Hid (shopT ⟨⟨d1,f1,ss1,(D:Int),(F:Int),ss2,st⟩,P,pp,(M:Int)⟩=[cardT D F ss2,tSteps++numT st.length,cardsT P,sheetsT pp,tMoney++numT M]):=by
  unfold Hid shopT;simp only [Int.toNat_natCast]
 have HOK:=Lib.hid hok
 have HZ:=hide hz
 have HCD:=Lib.hid hcard
 have HZ16:=hide hz16
 clear hok hz hcard hz16
 go_enter Tryz.func13,Tryz.ntmps13
 go_wp2_with fail
 have kb:=blk_new w (.cells #[.int .i64 d1,.int .i64 f1,.slice A1 ss1.length c1,.int .i64 (D:Int),.int .i64 (F:Int),.slice (some ⟨g,0,none⟩) ss2.length c2,.slice A3 st.length c3,.slice A4 P.length c4,.slice A5 pp.length c5,.int .i64 (M:Int)] 33)
 have hb0:Below w.heap.size w (w.alloc (.cells #[.int .i64 d1,.int .i64 f1,.slice A1 ss1.length c1,.int .i64 (D:Int),.int .i64 (F:Int),.slice (some ⟨g,0,none⟩) ss2.length c2,.slice A3 st.length c3,.slice A4 P.length c4,.slice A5 pp.length c5,.int .i64 (M:Int)] 33)):=(Below.refl _ _).alloc (Nat.le_refl _) _
 have hW0:=hW.alloc (.cells #[.int .i64 d1,.int .i64 f1,.slice A1 ss1.length c1,.int .i64 (D:Int),.int .i64 (F:Int),.slice (some ⟨g,0,none⟩) ss2.length c2,.slice A3 st.length c3,.slice A4 P.length c4,.slice A5 pp.length c5,.int .i64 (M:Int)] 33)
 generalize (w.alloc (.cells #[.int .i64 d1,.int .i64 f1,.slice A1 ss1.length c1,.int .i64 (D:Int),.int .i64 (F:Int),.slice (some ⟨g,0,none⟩) ss2.length c2,.slice A3 st.length c3,.slice A4 P.length c4,.slice A5 pp.length c5,.int .i64 (M:Int)] 33))=w0 at *
 have hs0:=hb0.size
 refine (i_WorkshopOk d1 f1 ss1 D F ss2 st P pp M w0.heap.size A1 _ A3 A4 A5 c1 c2 c3 c4 c5 w0 (hW0.rd (HZ.out.more (by omega))) (Nat.le_refl _)).mono ?_
 rw [HOK.out]
 rintro e w1 ⟨rfl,hb1⟩
 have k1:=blk_next kb hb1
 have hW1:=hW0.below hb1
 have hB1:=hb0.trans (hb1.mono hs0)
 obtain ⟨x0,x1,x2,x3,x4,x5,x6,x7,x8,x9,xl⟩:=blk10 k1
 have HI:=(hW1.rd (HZ.out.more (by omega))).i
 obtain ⟨L,hLP,hIt⟩:=HI
 have hcat:=(workOk_iff.1 HOK.out).2.1
 simp only at hcat
 have hP20:P.length≤20:=(catOk_iff.1 hcat).1
 have hnm:=nm_size hcat
 have HNM:=hide hnm
 have HLP:=Lib.hid hLP
 clear hcat hnm hLP
 go_wp2
 go_loopw [3,14] (fun s i wr=>∃ k:Nat,k≤P.length∧i=.int .i64 (k:Int)∧s=.string (tailT tCards ((P.map (·.nm)).take k))∧Below w1.heap.size w1 wr) (fun _ i _=>P.length - (intOf i).toNat)
 case atStart=>exact ⟨0,Nat.zero_le _,rfl,by rw [List.take_zero,tailT_nil];rfl,Below.refl _ _⟩
 case round =>
  obtain ⟨k,hk,rfl,rfl,hb⟩:=hrel
  have hzr:=hb.size
  by_cases hlt:k<P.length
  ·obtain ⟨hk1,ad,hA4,hab,e0,e1,e2,e3,hSx,hnx⟩:=(hIt.below hb).at_ (k:=k) hlt
   subst hA4
   have hP1:=plI_at hk1
   rw [HLP.out] at hP1
   have hkm:k<(P.map (·.nm)).length:=by rw [List.length_map];exact hlt
   have hPk:(P.map (·.nm))[k]=L[k].x.nm:=by
    rw [List.getElem?_eq_getElem hlt] at hP1
    have:=Option.some.inj hP1
    rw [List.getElem_map,this]
   have h12:=HNM.out _ (List.getElem_mem hkm)
   have HK:=Lib.hid (tailT_take tCards (P.map (·.nm)) hkm)
   have hts:=tailT_size tCards 12 ((P.map (·.nm)).take k) (fun x hx=>HNM.out x (List.mem_of_mem_take hx))
   have htl:((P.map (·.nm)).take k).length≤20:=by rw [List.length_take,List.length_map];omega
   have htc:tCards.size=5:=rfl
   rw [hPk] at h12 HK
   obtain ⟨Q,hQ⟩:∃ Q,tailT tCards ((P.map (·.nm)).take k)=Q:=⟨_,rfl⟩
   rw [hQ] at HK hts ⊢
   obtain ⟨X,hX⟩:∃ X,L[k]=X:=⟨_,rfl⟩
   rw [hX] at HK h12 e0 e1 e2 e3
   clear hQ hX hPk hP1 hSx hnx
   have ov1:¬9223372036854775807<(⟨#[32]⟩:ByteArray).size+X.x.nm.size:=by rw [size1];omega
   have ov2:¬9223372036854775807<Q.size+((⟨#[32]⟩:ByteArray)++X.x.nm).size:=by rw [ByteArray.size_append,size1];omega
   have hbx:=hb.alloc hzr (.cells #[.string X.x.nm,.int .i64 X.x.d,.int .i64 X.x.f,.slice X.A X.x.ss.length X.c] 65)
   clear htc hts htl
   go_wp2
   go_roundw
   case rel=>exact ⟨k+1,by omega,by go_num,by rw [HK.out],hbx⟩
   case measure=>simp [intOf];omega
  ·have hkl:k=P.length:=by omega
   have HCT:Hid (tailT tCards ((P.map (·.nm)).take k)=cardsT P):=by
    unfold Hid cardsT
    rw [List.take_of_length_le (by rw [List.length_map];omega)]
   rw [HCT.out]
   clear HCT
   subst hkl
   have k2:=blk_below k1 hb (blk_lt k1)
   obtain ⟨w2,hw2⟩:∃ Q9:World,Q9=wr:=⟨_,rfl⟩
   subst hw2
   clear hIt HNM x0 x1 x2 x3 x4 x5 x6 x7 x8 x9 xl
   obtain ⟨x0,x1,x2,x3,x4,x5,x6,x7,x8,x9,xl⟩:=blk10 k2
   have hP:=(hW1.rd (HZ.out.more (by omega))).p
   have hpp:pp.length≤20:=(workOk_iff.1 HOK.out).2.2.1
   have hT2:=(hT.below hB1).below hb
   go_wp2
   go_loopw [4,7,24] (fun s _ i wr=>∃ k:Nat,k≤10∧i=.int .i64 (k:Int)∧s=.string (tailT tSheets ((sheetN pp).take k))∧Below w2.heap.size w2 wr) (fun _ _ i _=>10 - (intOf i).toNat)
   case atStart=>exact ⟨0,Nat.zero_le _,rfl,by rw [List.take_zero,tailT_nil];rfl,Below.refl _ _⟩
   case round =>
    obtain ⟨k,hk,rfl,rfl,hbk⟩:=hrel
    have hzk:=hbk.size
    have k3:=blk_below k2 hbk (blk_lt k2)
    by_cases hlt:k<10
    ·have hkm:k<(sheetN pp).length:=by rw [sheetN_len];exact hlt
     have hbd:=sheets_bd pp (k:Int) hpp
     have h10:=sheetN_size pp hpp _ (List.getElem_mem hkm)
     have HK:=Lib.hid (tailT_take tSheets (sheetN pp) hkm)
     rw [sheetN_at pp hkm] at h10 HK
     have hts:=tailT_size tSheets 10 ((sheetN pp).take k) (fun x hx=>sheetN_size pp hpp x (List.mem_of_mem_take hx))
     have htl:((sheetN pp).take k).length≤10:=by rw [List.length_take];omega
     have htc:tSheets.size=6:=rfl
     obtain ⟨Q,hQ⟩:∃ Q,tailT tSheets ((sheetN pp).take k)=Q:=⟨_,rfl⟩
     rw [hQ] at HK hts ⊢
     clear hQ
     have kS:=fun (W:World) (h:Below w1.heap.size w1 W)=>i_SheetsLeft pp (k:Int) w1.heap.size A5 pp.length c5 W (hP.below h) h.size
     obtain ⟨z,hz⟩:∃ z:Nat,sheetsL pp (k:Int)=z:=⟨(sheetsL pp (k:Int)).toNat,by omega⟩
     rw [hz] at hbd h10 HK
     simp only [hz] at kS
     rw [Int.toNat_natCast] at h10 HK
     have KS:=hide kS
     clear kS hz
     have ov1:¬9223372036854775807<(⟨#[32]⟩:ByteArray).size+(numT z).size:=by rw [size1];omega
     have ov2:¬9223372036854775807<Q.size+((⟨#[32]⟩:ByteArray)++numT z).size:=by rw [ByteArray.size_append,size1];omega
     obtain ⟨y0,y1,y2,y3,y4,y5,y6,y7,y8,y9,yl⟩:=blk10 k3
     clear htc hts htl
     go_wp2_with fail
     refine (KS.out wr (hb.trans (hbk.mono hb.size))).mono ?_
     rintro e w3 ⟨rfl,hb3⟩
     have hb3':=hbk.trans (hb3.mono hzk)
     go_wp2_with fail
     refine (i_FormatInt z w3 (by omega) (hT2.below hb3')).mono ?_
     rintro e w4 ⟨rfl,hb4⟩
     have hb4':=hb3'.trans (hb4.mono hb3'.size)
     go_wp2
     go_roundw
     case rel=>exact ⟨k+1,by omega,by go_num,by rw [HK.out],hb4'⟩
     case measure=>simp [intOf];omega
    ·have hkl:((k:Nat):Int)=10:=by omega
     have HCS:Hid (tailT tSheets ((sheetN pp).take k)=sheetsT pp):=by
      unfold Hid sheetsT
      rw [List.take_of_length_le (by rw [sheetN_len];omega)]
     rw [HCS.out,hkl]
     have hB2r:=hb.trans (hbk.mono hb.size)
     have hBr:=hB1.trans (hB2r.mono hB1.size)
     have o3:=o2.below hBr
     have hT3:=hT2.below hbk
     have hzr3:=hBr.size
     have hcd2:=HCD.out
     have hz162:=HZ16.out
     have kC:=fun (W:World) (h:Below wr.heap.size wr W)=>i_CardText D F g ss2.length c2 ss2 W hcd2 ((o3.below h).rd (by omega) (fun s hs=>Nat.le_trans (hz162 s hs) (by decide))) (hT3.below h) hnc
     have kS:=fun (W:World) (h:Below wr.heap.size wr W)=>i_FormatInt st.length W (by omega) (hT3.below h)
     have kM:=fun (W:World) (h:Below wr.heap.size wr W)=>i_FormatInt M W (by omega) (hT3.below h)
     have KC:=hide kC
     have KS:=hide kS
     have KM:=hide kM
     have z1:=numT10 (n:=st.length) (by omega)
     have z2:=numT10 (n:=M) (by omega)
     have ov1:¬9223372036854775807<6+(numT st.length).size:=by omega
     have ov2:¬9223372036854775807<6+(numT M).size:=by omega
     obtain ⟨y0,y1,y2,y3,y4,y5,y6,y7,y8,y9,yl⟩:=blk10 k3
     clear kC kS kM hcd2 hz162 z1 z2 k3 k2 k1 kb hbk hb hT2 hT3 o2 hW hW0 hW1 hP x0 x1 x2 x3 x4 x5 x6 x7 x8 x9 xl hB1 hb0 hb1
     go_wp2_with fail
     go_region_held3 (fun W=>(∀ b o,b<wr.heap.size→W.cell? ⟨b,o,none⟩=(wr).cell? ⟨b,o,none⟩)∧(∀ b o,b<wr.heap.size→W.frozen? ⟨b,o,none⟩=(wr).frozen? ⟨b,o,none⟩)∧Below (wr.heap.size) (wr) W) (exact keep_of bel) (first|(go_at_call 43;have hq:=(‹_∧_∧Below _ _ _›).2.2;refine (KC.out _ hq).mono ?_;rintro e w5 ⟨rfl,hb5⟩;have hq5:=hq.size;have hs5:=hb5.size;(try simp at hs5))|(go_at_call_of 26 (Value.int .i64 (st.length:Int));have hq:=(‹_∧_∧Below _ _ _›).2.2;refine (KS.out _ hq).mono ?_;rintro e w6 ⟨rfl,hb6⟩;have hq6:=hq.size;have hs6:=hb6.size;(try simp at hs6))|(go_at_call_of 26 (Value.int .i64 (M:Int));have hq:=(‹_∧_∧Below _ _ _›).2.2;refine (KM.out _ hq).mono ?_;rintro e w7 ⟨rfl,hb7⟩;have hq7:=hq.size;have hs7:=hb7.size;(try simp at hs7)))
     have hB7:Below wr.heap.size wr w7:=bel
     have hBw7:Below w.heap.size w w7:=hBr.trans (hB7.mono hzr3)
     go_wp2
     go_ret
     rw [HSH.out]
     exact ⟨_,_,rfl,World.ownsRow_lit w7 (base:=w.heap.size) (e:=9) (size:=1) #[.string (cardT D F ss2),.string (⟨#[115,116,101,112,115,32]⟩++numT st.length),.string (cardsT P),.string (sheetsT pp),.string (⟨#[109,111,110,101,121,32]⟩++numT M)] 5 hBw7.size (by unfold maxLen;omega) rfl,hBw7.alloc hBw7.size _⟩
def shopR (W:PWork):List ByteArray:=if workOk W=true then shopT W else []
theorem cardT_size {D F:Nat} {ss:List ByteArray} (h:cardOk D F ss=true):(cardT D F ss).size≤193:=by
 obtain ⟨D',F',hD,hF,hD8,hF8,hn1,hn10,hz⟩:=card_nat h
 obtain rfl:D=D':=by omega
 obtain rfl:F=F':=by omega
 have h1:=numT10 (n:=D) (by omega)
 have h2:=numT10 (n:=F) (by omega)
 have h3:=joinB_size hz
 have h4:=Nat.mul_le_mul_right 17 hn10
 have h5:(⟨#[58,32]⟩:ByteArray).size=2:=rfl
 unfold cardT headT
 rw [ByteArray.size_append,ByteArray.size_append,ByteArray.size_append,ByteArray.size_append,size1]
 omega
theorem shopT_size {W:PWork} (h:workOk W=true):∀ x∈shopT W,x.size≤1000:=by
 obtain ⟨h1,h2,h3,h4,h5,h6⟩:=workOk_iff.1 h
 have hc:=draft_card h1
 obtain ⟨D,F,hD,hF,hD8,hF8,hn1,hn10,hz⟩:=card_nat hc
 have hst:=(draftOk_iff.1 h1).1.2
 rw [hD,hF] at hc
 have q1:=cardT_size hc
 have q2:=numT10 (n:=W.D.st.length) (by omega)
 have q3:=tailT_size tCards 12 (W.P.map (·.nm)) (nm_size h2)
 have q4:=tailT_size tSheets 10 (sheetN W.pp) (sheetN_size W.pp h3)
 have q5:=numT10 (n:=W.m.toNat) (by omega)
 have q6:=(catOk_iff.1 h2).1
 rw [List.length_map] at q3
 rw [sheetN_len] at q4
 have z1:tCards.size=5:=rfl
 have z2:tSheets.size=6:=rfl
 have z3:tSteps.size=6:=rfl
 have z4:tMoney.size=6:=rfl
 intro x hx
 unfold shopT at hx
 rw [hD,hF,Int.toNat_natCast,Int.toNat_natCast] at hx
 simp only [List.mem_cons,List.mem_nil_iff,or_false] at hx
 rcases hx with rfl|rfl|rfl|rfl|rfl
 ·omega
 ·rw [ByteArray.size_append];omega
 ·unfold cardsT;omega
 ·unfold sheetsT;omega
 ·rw [ByteArray.size_append];omega
end Go.Proofs.YtlimlolciekimaaGreatDoor
