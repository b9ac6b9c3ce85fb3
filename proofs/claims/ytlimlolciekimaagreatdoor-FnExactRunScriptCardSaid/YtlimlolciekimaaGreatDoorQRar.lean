/- Contracts of the program's and the reference's functions (Ctx1, Ctx2p, Ctx2, Ctx3). -/
import Derived.BigQuiet
import Derived.Deep.CutRange
import Derived.Deep.DeepCutAuto
import Derived.Lib.QuietBelow
import Derived.Test.YtlimlolciekimaaGreatDoorRows
import Derived.Test.YtlimlolciekimaaGreatDoorQRao
import Derived.Test.YtlimlolciekimaaGreatDoorQRal
import Derived.Test.YtlimlolciekimaaGreatDoorQRb
import Derived.Test.YtlimlolciekimaaGreatDoorQRz
import Derived.Test.YtlimlolciekimaaGreatDoorQRn
import Derived.Test.YtlimlolciekimaaGreatDoorQRm
import Derived.Test.YtlimlolciekimaaGreatDoorQRw
namespace Go.Proofs.YtlimlolciekimaaGreatDoor
set_option maxHeartbeats 1600000
open Go.ChangeShapes Go.WideShapes Go.ChangeAt Go.RowKit
set_option linter.unusedVariables false
set_option linter.unusedSimpArgs false
set_option maxRecDepth 10000
theorem Zpg {x a b:Int}:inB x a b=true↔a≤x∧x≤b:=by simp [inB]
theorem Zp0 {s:ByteArray} (h:Zar s.data.toList=true):s.size≤16:=by
 unfold Zar inB at h
 simp at h
 have:s.data.toList.length=s.size:=by simp
 simp at this
 omega
theorem ZoB {d f:Int} {ss:List ByteArray} (h:Zac d f ss=true):(1≤d∧d≤8∧1≤f∧f≤8)∧(1≤ss.length∧ss.length≤10)∧∀ s∈ss,s.size≤16:=by
 unfold Zac at h
 simp only [Bool.and_eq_true,List.all_eq_true] at h
 obtain ⟨⟨h1,h2⟩,h3,h4⟩:=h
 have e1:=Zpg.1 h1
 have e2:=Zpg.1 h2
 have e3:=Zpg.1 h3
 refine ⟨⟨by omega,by omega,by omega,by omega⟩,⟨by omega,by omega⟩,fun s hs=>?_⟩
 have hs2:=h4 s hs
 unfold Zb2 ZcF at hs2
 by_cases hi:Zar s.data.toList=true
 ·exact Zp0 hi
 ·rw [if_neg hi] at hs2
  simp at hs2
  omega
theorem Zeo {d f:Int} {ss:List ByteArray} (h:Zac d f ss=true):∃ D F:Nat,d=D∧f=F∧D≤8∧F≤8∧1≤ss.length∧ss.length≤10∧∀ s∈ss,s.size≤16:=by
 have hb:=ZoB h
 exact ⟨d.toNat,f.toNat,by omega,by omega,by omega,by omega,hb.2.1.1,hb.2.1.2,hb.2.2⟩
theorem ZcM {n:Nat} (h:n≤1000000000):(Zan n).size≤10:=by
 have:(Zan n).size=(Zan n).data.toList.length:=by rw [Array.length_toList];rfl
 rw [this];exact Zmw h
set_option maxHeartbeats 3200000 in
theorem Zk5 (D F:Nat) (g:Nat) (n c:Nat) (ss:List ByteArray) (w:World) (hc:Zac D F ss=true) (hS:ZaJ w w.heap.size (some ⟨g,0,none⟩) n ss) (hT:Tab w) (hnc:n≤c) :
  Calls Tryz.prog 43 #[.agg #[.int .i64 (D:Int),.int .i64 (F:Int),.slice (some ⟨g,0,none⟩) n c]] w fun e w'=>e=.returned (.string (Zen D F ss))∧Below w.heap.size w w':=by
 obtain ⟨D',F',hD,hF,hD8,hF8,hn1,hn10,hz⟩:=Zeo hc
 obtain rfl:D=D':=by omega
 obtain rfl:F=F':=by omega
 have hlen:=hS.len
 have HC:=Lib.hid hc
 clear hD hF hc
 go_enter Tryz.func43,Tryz.ntmps43
 go_wp2_with fail
 have kb:=Zy w (.cells #[.int .i64 (D:Int),.int .i64 (F:Int),.slice (some ⟨g,0,none⟩) n c] 26)
 have hb0:Below w.heap.size w (w.alloc (.cells #[.int .i64 (D:Int),.int .i64 (F:Int),.slice (some ⟨g,0,none⟩) n c] 26)):=bel
 have hS0:=(hS.alloc (Nat.le_refl _) (.cells #[.int .i64 (D:Int),.int .i64 (F:Int),.slice (some ⟨g,0,none⟩) n c] 26))
 generalize (w.alloc (.cells #[.int .i64 (D:Int),.int .i64 (F:Int),.slice (some ⟨g,0,none⟩) n c] 26))=w0 at *
 have hs0:=hb0.size
 refine (Zb0 _ _ _ _ _ ss _ (hS0.more hs0)).mono ?_
 rw [HC.out]
 rintro e w1 ⟨rfl,hb1⟩
 have k1:=Za kb hb1
 have hS1:=(hS0.more hs0).below hb1
 have hB1:=hb0.trans (hb1.mono hs0)
 have hs1:=hb1.size
 obtain ⟨x0,x1,x2,xl⟩:=Za8 k1
 have r0:=cell_regrown x0
 have r1:=cell_regrown x1
 have r2:=cell_regrown x2
 have hT1:=hT.below hB1
 have hl1:n≤16777216:=hS.nb
 obtain ⟨adx,hadx,hgb,hcel⟩:=hS1.rd.2 (by omega)
 have hadx:=Option.some.inj hadx
 subst hadx
 have zw:∀ d_ os,Below w1.heap.size w1 (Go.Sort.grow (redrawn w1 d_) os):=fun d_ os=>below_regrown w1 d_ os
 have kD:=fun d_ os=>Calls.regrown_of (w:=w1) (d:=d_) (os:=os) (ZbS D (Go.Sort.grow (redrawn w1 d_) os) (by omega) (hT1.below (zw d_ os)))
 have kF:=fun d_ os=>Calls.regrown_of (w:=w1) (d:=d_) (os:=os) (ZbS F (Go.Sort.grow (redrawn w1 d_) os) (by omega) (hT1.below (zw d_ os)))
 have hjz:=ZeD hz
 rw [hlen] at hjz
 have kJ:=fun d_ os=>Calls.regrown_of (w:=w1) (d:=d_) (os:=os) (v:=.string (ZbC ss)) (by
  have hJ:=Tryz.strings_Join g 0 c ss ⟨#[32]⟩ (Go.Sort.grow (redrawn w1 d_) os) (fun j x hx=>by
   have h:=hcel j (.string x) (by rw [List.getElem?_map,hx];rfl)
   have e:(⟨g,0,none⟩:Addr).add j=⟨g,0+j,none⟩:=by
    unfold Addr.add
    split
    ·rename_i h;subst h;rfl
    ·rfl
   rw [e] at h
   exact ((zw d_ os).cell (p:=⟨g,0+j,none⟩) (by show g<_;exact Nat.lt_of_lt_of_le hgb hs1)).trans h) (Nat.lt_of_lt_of_le (Nat.lt_of_lt_of_le hgb hs1) (zw d_ os).size) (by rw [hlen];omega) (by rw [hlen];exact hnc) (by
   have h2:(Lib.join (ss.map (·.data.toList)) [32]).length=(ZbC ss).size:=by
    have:(ZbC ss).size=(ZbC ss).data.toList.length:=by rw [Array.length_toList];rfl
    rw [this];rfl
   show (Lib.join (ss.map (·.data.toList)) [32]).length≤_
   rw [h2];omega)
  exact hJ)
 have hlen':=hlen
 rw [hlen] at kJ
 have KD:=Zk kD
 have KF:=Zk kF
 have KJ:=Zk kJ
 have hzD:=ZcM (n:=D) (by omega)
 have hzF:=ZcM (n:=F) (by omega)
 have h2z:(⟨#[58,32]⟩:ByteArray).size=2:=rfl
 have ov1:¬9223372036854775807<(Zan D).size+(⟨#[120]⟩:ByteArray).size:=by rw [ZaM];omega
 have ov2:¬9223372036854775807<(Zan D++(⟨#[120]⟩:ByteArray)).size+(Zan F).size:=by rw [ByteArray.size_append,ZaM];omega
 have ov3:¬9223372036854775807<(Zan D++(⟨#[120]⟩:ByteArray)++Zan F).size+(⟨#[58,32]⟩:ByteArray).size:=by rw [ByteArray.size_append,ByteArray.size_append,ZaM];omega
 have ov4:¬9223372036854775807<(Zan D++(⟨#[120]⟩:ByteArray)++Zan F++(⟨#[58,32]⟩:ByteArray)).size+(ZbC ss).size:=by rw [ByteArray.size_append,ByteArray.size_append,ByteArray.size_append,ZaM];omega
 clear kD kF kJ hcel hlen hlen' hz h2z
 go_wp2_with fail
 refine wp_region_quiet_below (by kernel_rfl) (Zmi (by kernel_rfl)) ?_
 try dsimp only [List.append]
 repeat (go_big_quiet_step (first|(go_at_call_of 26 (Value.int .i64 (D:Int));exact KD.out _ _)|(go_at_call_of 26 (Value.int .i64 (F:Int));exact KF.out _ _)|(go_at_call 65;exact KJ.out _ _)))
 refine wpQuiet_nil ?_
 intro _ hw'
 obtain ⟨⟨dq,osq⟩,hw''⟩:=hw'
 subst hw''
 go_wp2
 go_ret
 exact ⟨rfl,hB1.trans ((zw dq osq).mono hB1.size)⟩
set_option maxHeartbeats 3200000 in
theorem Zl1 (D F:Nat) (A:Option Addr) (n c:Nat) (ss:List ByteArray) (w:World) (hc:Zac D F ss=true) (hS:ZaJ w w.heap.size A n ss) :
  Calls Tryz.prog 50 #[.agg #[.int .i64 (D:Int),.int .i64 (F:Int),.slice A n c]] w fun e w'=>e=.returned (.string (Zen D F ss))∧Below w.heap.size w w':=by
 obtain ⟨D',F',hD,hF,hD8,hF8,hn1,hn10,hz⟩:=Zeo hc
 obtain rfl:D=D':=by omega
 obtain rfl:F=F':=by omega
 have hlen:=hS.len
 have HC:=Lib.hid hc
 clear hD hF hc
 go_enter Tryz.func50,Tryz.ntmps50
 go_wp2_with fail
 have kb:=Zy w (.cells #[.int .i64 (D:Int),.int .i64 (F:Int),.slice A n c] 26)
 have hb0:Below w.heap.size w (w.alloc (.cells #[.int .i64 (D:Int),.int .i64 (F:Int),.slice A n c] 26)):=bel
 have hS0:=(hS.alloc (Nat.le_refl _) (.cells #[.int .i64 (D:Int),.int .i64 (F:Int),.slice A n c] 26))
 generalize (w.alloc (.cells #[.int .i64 (D:Int),.int .i64 (F:Int),.slice A n c] 26))=w0 at *
 have hs0:=hb0.size
 refine (Zbp _ _ _ _ _ ss _ (hS0.more hs0)).mono ?_
 rw [HC.out]
 rintro e w1 ⟨rfl,hb1⟩
 have k1:=Za kb hb1
 have hS1:=(hS0.more hs0).below hb1
 have hB1:=hb0.trans (hb1.mono hs0)
 have hs1:=hb1.size
 obtain ⟨x0,x1,x2,xl⟩:=Za8 k1
 have r0:=cell_regrown x0
 have r1:=cell_regrown x1
 have r2:=cell_regrown x2
 have zw:∀ d_ os,Below w1.heap.size w1 (Go.Sort.grow (redrawn w1 d_) os):=fun d_ os=>below_regrown w1 d_ os
 have kD:=fun d_ os=>Calls.regrown_of (w:=w1) (d:=d_) (os:=os) (ZbJ D (Go.Sort.grow (redrawn w1 d_) os) (by omega))
 have kF:=fun d_ os=>Calls.regrown_of (w:=w1) (d:=d_) (os:=os) (ZbJ F (Go.Sort.grow (redrawn w1 d_) os) (by omega))
 have KD:=Zk kD
 have KF:=Zk kF
 have hzD:=ZcM (n:=D) (by omega)
 have hzF:=ZcM (n:=F) (by omega)
 have ov1:¬9223372036854775807<(Zan D).size+(⟨#[120]⟩:ByteArray).size:=by rw [ZaM];omega
 have ov2:¬9223372036854775807<(Zan D++(⟨#[120]⟩:ByteArray)).size+(Zan F).size:=by rw [ByteArray.size_append,ZaM];omega
 have ov3:¬9223372036854775807<(Zan D++(⟨#[120]⟩:ByteArray)++Zan F).size+(⟨#[58]⟩:ByteArray).size:=by rw [ByteArray.size_append,ByteArray.size_append,ZaM,ZaM];omega
 have hpz:(Zan D++(⟨#[120]⟩:ByteArray)++Zan F++(⟨#[58]⟩:ByteArray)).size≤22:=by rw [ByteArray.size_append,ByteArray.size_append,ByteArray.size_append,ZaM,ZaM];omega
 have HT:Hid (Zen D F ss=ZbP (Zan D++(⟨#[120]⟩:ByteArray)++Zan F++(⟨#[58]⟩:ByteArray)) ss):=ZlY D F (by rintro rfl;simp at hn1)
 have HZ:=Zk hz
 clear kD kF hz
 go_wp2_with fail
 refine wp_region_quiet_below (by kernel_rfl) (Zmi (by kernel_rfl)) ?_
 try dsimp only [List.append]
 repeat (go_big_quiet_step (first|(go_at_call_of 48 (Value.int .i64 (D:Int));exact KD.out _ _)|(go_at_call_of 48 (Value.int .i64 (F:Int));exact KF.out _ _)))
 refine wpQuiet_nil ?_
 intro _ hw'
 obtain ⟨⟨dq,osq⟩,hw''⟩:=hw'
 subst hw''
 have hB2:=hB1.trans ((zw dq osq).mono hB1.size)
 have k2:=Zbf k1 (zw dq osq) (Zg k1)
 have hS2:=hS1.below ((zw dq osq).mono hs1)
 clear KD KF r0 r1 r2 zw x0 x1 x2 xl ov1 ov2 ov3 k1 hS1 hS0 hb1 kb
 generalize (Go.Sort.grow (redrawn w1 dq) osq)=w2 at *
 generalize (Zan D++(⟨#[120]⟩:ByteArray)++Zan F++(⟨#[58]⟩:ByteArray))=pre at *
 obtain ⟨x0,x1,x2,xl⟩:=Za8 k2
 have HL:=Lib.hid hlen
 have hlenb:ss.length≤n:=by omega
 clear hlen
 go_wp2
 go_loop [3,4] (fun sv kv=>∃ k:Nat,k≤n∧kv=.int .i64 (k:Int)∧sv=.string (ZbP pre (ss.take k))) (fun _ kv=>n - (intOf kv).toNat)
 case atStart=>exact ⟨0,Nat.zero_le _,rfl,by rw [List.take_zero,ZdB]⟩
 case round =>
  obtain ⟨k,hk,rfl,rfl⟩:=hrel
  by_cases hlt:k<n
  ·obtain ⟨hk1,ad,rfl,hab,hcl,hsb⟩:=hS2.at_ hlt
   have h16:=HZ.out _ (List.getElem_mem hk1)
   have HK:=Lib.hid (Ze5 pre ss hk1)
   have hts:=ZcE pre 16 (ss.take k) (fun x hx=>HZ.out x (List.mem_of_mem_take hx))
   have htl:(ss.take k).length≤10:=by rw [List.length_take];omega
   obtain ⟨Q,hQ⟩:∃ Q,ZbP pre (ss.take k)=Q:=⟨_,rfl⟩
   rw [hQ] at HK hts ⊢
   clear hQ
   obtain ⟨x,hx⟩:∃ x,ss[k]=x:=⟨_,rfl⟩
   rw [hx] at HK h16 hcl hsb
   clear hx
   have ov1:¬9223372036854775807<Q.size+(⟨#[32]⟩:ByteArray).size:=by rw [ZaM];omega
   have ov2:¬9223372036854775807<(Q++(⟨#[32]⟩:ByteArray)).size+x.size:=by rw [ByteArray.size_append,ZaM];omega
   go_wp2
   go_round
   case rel=>exact ⟨k+1,by omega,by go_num,by rw [HK.out]⟩
   case measure=>simp [intOf];omega
  ·have hkn:k=n:=by omega
   subst hkn
   have HE:Hid (Zen D F ss=ZbP pre (ss.take k)):=by unfold Hid;rw [List.take_of_length_le (by rw [HL.out];exact Nat.le_refl _)];exact HT.out
   go_wp2
   go_ret
   rw [HE.out]
   exact ⟨rfl,hB2⟩
def ZjW:ByteArray:=⟨#[115,116,101,112,115,32]⟩
def ZcG:ByteArray:=⟨#[99,97,114,100,115]⟩
def Zcd:ByteArray:=⟨#[115,104,101,101,116,115]⟩
def ZjO:ByteArray:=⟨#[109,111,110,101,121,32]⟩
def Zd3 (P:List Zr):ByteArray:=ZbP ZcG (P.map (·.nm))
def ZbU (pp:List Zt):List ByteArray:=(List.range 10).map fun (k:Nat)=>Zan (Zbn pp (k:Int)).toNat
def Zde (pp:List Zt):ByteArray:=ZbP Zcd (ZbU pp)
def ZdK (W:Zh):List ByteArray:=[Zen W.D.d2.toNat W.D.f2.toNat W.D.ss2,ZjW++Zan W.D.st.length,Zd3 W.P,Zde W.pp,ZjO++Zan W.m.toNat]
theorem Zjz {P:List Zr} (h:Za7 P=true):∀ x∈P.map (·.nm),x.size≤12:=by
 intro x hx
 obtain ⟨y,hy,rfl⟩:=List.mem_map.1 hx
 have h1:=((Zef.1 h).2.1 y hy).1
 unfold Zcl at h1
 simp only [Bool.and_eq_true] at h1
 have h2:=Zeu.1 h1.2
 omega
theorem Zgv (pp:List Zt) (K:Int) (hn:pp.length≤20):0≤Zbn pp K∧Zbn pp K≤2000000:=by
 unfold Zbn
 split
 ·rename_i h
  have:=Zfc h K pp.length (Nat.le_refl _)
  omega
 ·omega
theorem Zdl (pp:List Zt) (hn:pp.length≤20):∀ x∈ZbU pp,x.size≤10:=by
 intro x hx
 unfold ZbU at hx
 obtain ⟨k,_,rfl⟩:=List.mem_map.1 hx
 exact ZcM (by have:=Zgv pp (k:Int) hn;omega)
theorem Zi0 (pp:List Zt) {k:Nat} (hk:k<(ZbU pp).length):(ZbU pp)[k]=Zan (Zbn pp (k:Int)).toNat:=by
 simp only [ZbU,List.getElem_map,List.getElem_range]
theorem ZdH (pp:List Zt):(ZbU pp).length=10:=by unfold ZbU;rw [List.length_map,List.length_range]
set_option maxHeartbeats 6400000 in
theorem ZgP (d1 f1:Int) (ss1:List ByteArray) (d2 f2:Int) (ss2:List ByteArray) (st:List Zv) (P:List Zr) (pp:List Zt) (m:Int) (lo hi:Nat) (A1 A2 A3 A4 A5:Option Addr) (c1 c2 c3 c4 c5:Nat) (w:World)
  (hW:Zau w lo hi A1 c1 A2 c2 A3 c3 A4 c4 A5 c5 ⟨d1,f1,ss1,d2,f2,ss2,st⟩ P pp) (hz:ZaI ⟨d1,f1,ss1,d2,f2,ss2,st⟩ P pp 1048576) (hok:Zp ⟨⟨d1,f1,ss1,d2,f2,ss2,st⟩,P,pp,m⟩=true) (hT:Tab w) :
  Calls Tryz.prog 13 #[.agg #[.int .i64 d1,.int .i64 f1,.slice A1 ss1.length c1,.int .i64 d2,.int .i64 f2,.slice A2 ss2.length c2,.slice A3 st.length c3,.slice A4 P.length c4,.slice A5 pp.length c5,.int .i64 m]] w (Zd9 w.heap.size (ZdK ⟨⟨d1,f1,ss1,d2,f2,ss2,st⟩,P,pp,m⟩) w):=by
 have hcard:=Zew (Za3.1 hok).1
 have hmm:=(Za3.1 hok).2.2.2.2
 simp only at hcard hmm
 obtain ⟨D,F,rfl,rfl,hD8,hF8,hn1,hn10,hz16⟩:=Zeo hcard
 obtain ⟨M,rfl⟩:∃ M:Nat,m=M:=⟨m.toNat,by omega⟩
 obtain ⟨l1,h1,l2,h2,l3,h3,L0,hr0,ha0,x00,hp0,y00,z00⟩:=hW.all
 have o2:Zaa w l1 h1 A2 c2 ss2:=x00.o2
 have hst40:st.length≤40:=(Zb1.1 (Za3.1 hok).1).1.2
 clear hr0 ha0 x00 hp0 y00 z00 L0
 obtain ⟨g,cap,hv,hgb,hgl⟩:=o2.row.form hn1
 have hA:A2=some ⟨g,0,none⟩:=by injection hv
 subst hA
 clear hv
 have hnc:=(ZmA o2.row).1
 have HSH:Hid (ZdK ⟨⟨d1,f1,ss1,(D:Int),(F:Int),ss2,st⟩,P,pp,(M:Int)⟩=[Zen D F ss2,ZjW++Zan st.length,Zd3 P,Zde pp,ZjO++Zan M]):=by
  unfold Hid ZdK;simp only [Int.toNat_natCast]
 have HOK:=Lib.hid hok
 have HZ:=Zk hz
 have HCD:=Lib.hid hcard
 have HZ16:=Zk hz16
 clear hok hz hcard hz16
 go_enter Tryz.func13,Tryz.ntmps13
 go_wp2_with fail
 have kb:=Zy w (.cells #[.int .i64 d1,.int .i64 f1,.slice A1 ss1.length c1,.int .i64 (D:Int),.int .i64 (F:Int),.slice (some ⟨g,0,none⟩) ss2.length c2,.slice A3 st.length c3,.slice A4 P.length c4,.slice A5 pp.length c5,.int .i64 (M:Int)] 33)
 have hb0:Below w.heap.size w (w.alloc (.cells #[.int .i64 d1,.int .i64 f1,.slice A1 ss1.length c1,.int .i64 (D:Int),.int .i64 (F:Int),.slice (some ⟨g,0,none⟩) ss2.length c2,.slice A3 st.length c3,.slice A4 P.length c4,.slice A5 pp.length c5,.int .i64 (M:Int)] 33)):=(Below.refl _ _).alloc (Nat.le_refl _) _
 have hW0:=hW.alloc (.cells #[.int .i64 d1,.int .i64 f1,.slice A1 ss1.length c1,.int .i64 (D:Int),.int .i64 (F:Int),.slice (some ⟨g,0,none⟩) ss2.length c2,.slice A3 st.length c3,.slice A4 P.length c4,.slice A5 pp.length c5,.int .i64 (M:Int)] 33)
 generalize (w.alloc (.cells #[.int .i64 d1,.int .i64 f1,.slice A1 ss1.length c1,.int .i64 (D:Int),.int .i64 (F:Int),.slice (some ⟨g,0,none⟩) ss2.length c2,.slice A3 st.length c3,.slice A4 P.length c4,.slice A5 pp.length c5,.int .i64 (M:Int)] 33))=w0 at *
 have hs0:=hb0.size
 refine (Za0 d1 f1 ss1 D F ss2 st P pp M w0.heap.size A1 _ A3 A4 A5 c1 c2 c3 c4 c5 w0 (hW0.rd (HZ.out.more (by omega))) (Nat.le_refl _)).mono ?_
 rw [HOK.out]
 rintro e w1 ⟨rfl,hb1⟩
 have k1:=Za kb hb1
 have hW1:=hW0.below hb1
 have hB1:=hb0.trans (hb1.mono hs0)
 obtain ⟨x0,x1,x2,x3,x4,x5,x6,x7,x8,x9,xl⟩:=Zq k1
 have HI:=(hW1.rd (HZ.out.more (by omega))).i
 obtain ⟨L,hLP,hIt⟩:=HI
 have hcat:=(Za3.1 HOK.out).2.1
 simp only at hcat
 have hP20:P.length≤20:=(Zef.1 hcat).1
 have hnm:=Zjz hcat
 have HNM:=Zk hnm
 have HLP:=Lib.hid hLP
 clear hcat hnm hLP
 go_wp2
 go_loopw [3,14] (fun s i wr=>∃ k:Nat,k≤P.length∧i=.int .i64 (k:Int)∧s=.string (ZbP ZcG ((P.map (·.nm)).take k))∧Below w1.heap.size w1 wr) (fun _ i _=>P.length - (intOf i).toNat)
 case atStart=>exact ⟨0,Nat.zero_le _,rfl,by rw [List.take_zero,ZdB];rfl,Below.refl _ _⟩
 case round =>
  obtain ⟨k,hk,rfl,rfl,hb⟩:=hrel
  have hzr:=hb.size
  by_cases hlt:k<P.length
  ·obtain ⟨hk1,ad,hA4,hab,e0,e1,e2,e3,hSx,hnx⟩:=(hIt.below hb).at_ (k:=k) hlt
   subst hA4
   have hP1:=Zc6 hk1
   rw [HLP.out] at hP1
   have hkm:k<(P.map (·.nm)).length:=by rw [List.length_map];exact hlt
   have hPk:(P.map (·.nm))[k]=L[k].x.nm:=by
    rw [List.getElem?_eq_getElem hlt] at hP1
    have:=Option.some.inj hP1
    rw [List.getElem_map,this]
   have h12:=HNM.out _ (List.getElem_mem hkm)
   have HK:=Lib.hid (Ziw ZcG (P.map (·.nm)) hkm)
   have hts:=ZcE ZcG 12 ((P.map (·.nm)).take k) (fun x hx=>HNM.out x (List.mem_of_mem_take hx))
   have htl:((P.map (·.nm)).take k).length≤20:=by rw [List.length_take,List.length_map];omega
   have htc:ZcG.size=5:=rfl
   rw [hPk] at h12 HK
   obtain ⟨Q,hQ⟩:∃ Q,ZbP ZcG ((P.map (·.nm)).take k)=Q:=⟨_,rfl⟩
   rw [hQ] at HK hts ⊢
   obtain ⟨X,hX⟩:∃ X,L[k]=X:=⟨_,rfl⟩
   rw [hX] at HK h12 e0 e1 e2 e3
   clear hQ hX hPk hP1 hSx hnx
   have ov1:¬9223372036854775807<(⟨#[32]⟩:ByteArray).size+X.x.nm.size:=by rw [ZaM];omega
   have ov2:¬9223372036854775807<Q.size+((⟨#[32]⟩:ByteArray)++X.x.nm).size:=by rw [ByteArray.size_append,ZaM];omega
   have hbx:=hb.alloc hzr (.cells #[.string X.x.nm,.int .i64 X.x.d,.int .i64 X.x.f,.slice X.A X.x.ss.length X.c] 65)
   clear htc hts htl
   go_wp2
   go_roundw
   case rel=>exact ⟨k+1,by omega,by go_num,by rw [HK.out],hbx⟩
   case measure=>simp [intOf];omega
  ·have hkl:k=P.length:=by omega
   have HCT:Hid (ZbP ZcG ((P.map (·.nm)).take k)=Zd3 P):=by
    unfold Hid Zd3
    rw [List.take_of_length_le (by rw [List.length_map];omega)]
   rw [HCT.out]
   clear HCT
   subst hkl
   have k2:=Zbf k1 hb (Zg k1)
   obtain ⟨w2,hw2⟩:∃ Q9:World,Q9=wr:=⟨_,rfl⟩
   subst hw2
   clear hIt HNM x0 x1 x2 x3 x4 x5 x6 x7 x8 x9 xl
   obtain ⟨x0,x1,x2,x3,x4,x5,x6,x7,x8,x9,xl⟩:=Zq k2
   have hP:=(hW1.rd (HZ.out.more (by omega))).p
   have hpp:pp.length≤20:=(Za3.1 HOK.out).2.2.1
   have hT2:=(hT.below hB1).below hb
   go_wp2
   go_loopw [4,7,24] (fun s _ i wr=>∃ k:Nat,k≤10∧i=.int .i64 (k:Int)∧s=.string (ZbP Zcd ((ZbU pp).take k))∧Below w2.heap.size w2 wr) (fun _ _ i _=>10 - (intOf i).toNat)
   case atStart=>exact ⟨0,Nat.zero_le _,rfl,by rw [List.take_zero,ZdB];rfl,Below.refl _ _⟩
   case round =>
    obtain ⟨k,hk,rfl,rfl,hbk⟩:=hrel
    have hzk:=hbk.size
    have k3:=Zbf k2 hbk (Zg k2)
    by_cases hlt:k<10
    ·have hkm:k<(ZbU pp).length:=by rw [ZdH];exact hlt
     have hbd:=Zgv pp (k:Int) hpp
     have h10:=Zdl pp hpp _ (List.getElem_mem hkm)
     have HK:=Lib.hid (Ziw Zcd (ZbU pp) hkm)
     rw [Zi0 pp hkm] at h10 HK
     have hts:=ZcE Zcd 10 ((ZbU pp).take k) (fun x hx=>Zdl pp hpp x (List.mem_of_mem_take hx))
     have htl:((ZbU pp).take k).length≤10:=by rw [List.length_take];omega
     have htc:Zcd.size=6:=rfl
     obtain ⟨Q,hQ⟩:∃ Q,ZbP Zcd ((ZbU pp).take k)=Q:=⟨_,rfl⟩
     rw [hQ] at HK hts ⊢
     clear hQ
     have kS:=fun (W:World) (h:Below w1.heap.size w1 W)=>ZfV pp (k:Int) w1.heap.size A5 pp.length c5 W (hP.below h) h.size
     obtain ⟨z,hz⟩:∃ z:Nat,Zbn pp (k:Int)=z:=⟨(Zbn pp (k:Int)).toNat,by omega⟩
     rw [hz] at hbd h10 HK
     simp only [hz] at kS
     rw [Int.toNat_natCast] at h10 HK
     have KS:=Zk kS
     clear kS hz
     have ov1:¬9223372036854775807<(⟨#[32]⟩:ByteArray).size+(Zan z).size:=by rw [ZaM];omega
     have ov2:¬9223372036854775807<Q.size+((⟨#[32]⟩:ByteArray)++Zan z).size:=by rw [ByteArray.size_append,ZaM];omega
     obtain ⟨y0,y1,y2,y3,y4,y5,y6,y7,y8,y9,yl⟩:=Zq k3
     clear htc hts htl
     go_wp2_with fail
     refine (KS.out wr (hb.trans (hbk.mono hb.size))).mono ?_
     rintro e w3 ⟨rfl,hb3⟩
     have hb3':=hbk.trans (hb3.mono hzk)
     go_wp2_with fail
     refine (ZbS z w3 (by omega) (hT2.below hb3')).mono ?_
     rintro e w4 ⟨rfl,hb4⟩
     have hb4':=hb3'.trans (hb4.mono hb3'.size)
     go_wp2
     go_roundw
     case rel=>exact ⟨k+1,by omega,by go_num,by rw [HK.out],hb4'⟩
     case measure=>simp [intOf];omega
    ·have hkl:((k:Nat):Int)=10:=by omega
     have HCS:Hid (ZbP Zcd ((ZbU pp).take k)=Zde pp):=by
      unfold Hid Zde
      rw [List.take_of_length_le (by rw [ZdH];omega)]
     rw [HCS.out,hkl]
     have hB2r:=hb.trans (hbk.mono hb.size)
     have hBr:=hB1.trans (hB2r.mono hB1.size)
     have o3:=o2.below hBr
     have hT3:=hT2.below hbk
     have hzr3:=hBr.size
     have hcd2:=HCD.out
     have hz162:=HZ16.out
     have kC:=fun (W:World) (h:Below wr.heap.size wr W)=>Zk5 D F g ss2.length c2 ss2 W hcd2 ((o3.below h).rd (by omega) (fun s hs=>Nat.le_trans (hz162 s hs) (by decide))) (hT3.below h) hnc
     have kS:=fun (W:World) (h:Below wr.heap.size wr W)=>ZbS st.length W (by omega) (hT3.below h)
     have kM:=fun (W:World) (h:Below wr.heap.size wr W)=>ZbS M W (by omega) (hT3.below h)
     have KC:=Zk kC
     have KS:=Zk kS
     have KM:=Zk kM
     have z1:=ZcM (n:=st.length) (by omega)
     have z2:=ZcM (n:=M) (by omega)
     have ov1:¬9223372036854775807<6+(Zan st.length).size:=by omega
     have ov2:¬9223372036854775807<6+(Zan M).size:=by omega
     obtain ⟨y0,y1,y2,y3,y4,y5,y6,y7,y8,y9,yl⟩:=Zq k3
     clear kC kS kM hcd2 hz162 z1 z2 k3 k2 k1 kb hbk hb hT2 hT3 o2 hW hW0 hW1 hP x0 x1 x2 x3 x4 x5 x6 x7 x8 x9 xl hB1 hb0 hb1
     go_wp2_with fail
     go_region_held3 (fun W=>(∀ b o,b<wr.heap.size→W.cell? ⟨b,o,none⟩=(wr).cell? ⟨b,o,none⟩)∧(∀ b o,b<wr.heap.size→W.frozen? ⟨b,o,none⟩=(wr).frozen? ⟨b,o,none⟩)∧Below (wr.heap.size) (wr) W) (exact ZbA bel) (first|(go_at_call 43;have hq:=(‹_∧_∧Below _ _ _›).2.2;refine (KC.out _ hq).mono ?_;rintro e w5 ⟨rfl,hb5⟩;have hq5:=hq.size;have hs5:=hb5.size;(try simp at hs5))|(go_at_call_of 26 (Value.int .i64 (st.length:Int));have hq:=(‹_∧_∧Below _ _ _›).2.2;refine (KS.out _ hq).mono ?_;rintro e w6 ⟨rfl,hb6⟩;have hq6:=hq.size;have hs6:=hb6.size;(try simp at hs6))|(go_at_call_of 26 (Value.int .i64 (M:Int));have hq:=(‹_∧_∧Below _ _ _›).2.2;refine (KM.out _ hq).mono ?_;rintro e w7 ⟨rfl,hb7⟩;have hq7:=hq.size;have hs7:=hb7.size;(try simp at hs7)))
     have hB7:Below wr.heap.size wr w7:=bel
     have hBw7:Below w.heap.size w w7:=hBr.trans (hB7.mono hzr3)
     go_wp2
     go_ret
     rw [HSH.out]
     exact ⟨_,_,rfl,World.ownsRow_lit w7 (base:=w.heap.size) (e:=9) (size:=1) #[.string (Zen D F ss2),.string (⟨#[115,116,101,112,115,32]⟩++Zan st.length),.string (Zd3 P),.string (Zde pp),.string (⟨#[109,111,110,101,121,32]⟩++Zan M)] 5 hBw7.size (by unfold maxLen;omega) rfl,hBw7.alloc hBw7.size _⟩
def Zkw (W:Zh):List ByteArray:=if Zp W=true then ZdK W else []
theorem Zjp {W:Zh} (h:Zp W=true):Zkw W=ZdK W:=if_pos h
theorem Zos {W:Zh} (h:Zp W=false):Zkw W=[]:=by unfold Zkw;rw [h];rfl
theorem Zk7 {D F:Nat} {ss:List ByteArray} (h:Zac D F ss=true):(Zen D F ss).size≤193:=by
 obtain ⟨D',F',hD,hF,hD8,hF8,hn1,hn10,hz⟩:=Zeo h
 obtain rfl:D=D':=by omega
 obtain rfl:F=F':=by omega
 have h1:=ZcM (n:=D) (by omega)
 have h2:=ZcM (n:=F) (by omega)
 have h3:=ZeD hz
 have h4:=Nat.mul_le_mul_right 17 hn10
 have h5:(⟨#[58,32]⟩:ByteArray).size=2:=rfl
 unfold Zen ZnD
 rw [ByteArray.size_append,ByteArray.size_append,ByteArray.size_append,ByteArray.size_append,ZaM]
 omega
theorem Zl2 {W:Zh} (h:Zp W=true):∀ x∈ZdK W,x.size≤1000:=by
 obtain ⟨h1,h2,h3,h4,h5,h6⟩:=Za3.1 h
 have hc:=Zew h1
 obtain ⟨D,F,hD,hF,hD8,hF8,hn1,hn10,hz⟩:=Zeo hc
 have hst:=(Zb1.1 h1).1.2
 rw [hD,hF] at hc
 have q1:=Zk7 hc
 have q2:=ZcM (n:=W.D.st.length) (by omega)
 have q3:=ZcE ZcG 12 (W.P.map (·.nm)) (Zjz h2)
 have q4:=ZcE Zcd 10 (ZbU W.pp) (Zdl W.pp h3)
 have q5:=ZcM (n:=W.m.toNat) (by omega)
 have q6:=(Zef.1 h2).1
 rw [List.length_map] at q3
 rw [ZdH] at q4
 have z1:ZcG.size=5:=rfl
 have z2:Zcd.size=6:=rfl
 have z3:ZjW.size=6:=rfl
 have z4:ZjO.size=6:=rfl
 intro x hx
 unfold ZdK at hx
 rw [hD,hF,Int.toNat_natCast,Int.toNat_natCast] at hx
 simp only [List.mem_cons,List.mem_nil_iff,or_false] at hx
 rcases hx with rfl|rfl|rfl|rfl|rfl
 ·omega
 ·rw [ByteArray.size_append];omega
 ·unfold Zd3;omega
 ·unfold Zde;omega
 ·rw [ByteArray.size_append];omega
set_option maxHeartbeats 6400000 in
theorem ZgF (d1 f1:Int) (ss1:List ByteArray) (d2 f2:Int) (ss2:List ByteArray) (st:List Zv) (P:List Zr) (pp:List Zt) (m:Int) (B:Nat) (A1 A2 A3 A4 A5:Option Addr) (c1 c2 c3 c4 c5:Nat) (w:World) (hS:ZaF w B A1 A2 A3 A4 c4 A5 ⟨d1,f1,ss1,d2,f2,ss2,st⟩ P pp) (hB:B≤w.heap.size) :
  Calls Tryz.prog 17 #[.agg #[.int .i64 d1,.int .i64 f1,.slice A1 ss1.length c1,.int .i64 d2,.int .i64 f2,.slice A2 ss2.length c2,.slice A3 st.length c3,.slice A4 P.length c4,.slice A5 pp.length c5,.int .i64 m]] w (Zd9 w.heap.size (Zkw ⟨⟨d1,f1,ss1,d2,f2,ss2,st⟩,P,pp,m⟩) w):=by
 have hb0:Below w.heap.size w (w.alloc (.cells #[.int .i64 d1,.int .i64 f1,.slice A1 ss1.length c1,.int .i64 d2,.int .i64 f2,.slice A2 ss2.length c2,.slice A3 st.length c3,.slice A4 P.length c4,.slice A5 pp.length c5,.int .i64 m] 33)):=(Below.refl _ _).alloc (Nat.le_refl _) _
 have kb:=Zy w (.cells #[.int .i64 d1,.int .i64 f1,.slice A1 ss1.length c1,.int .i64 d2,.int .i64 f2,.slice A2 ss2.length c2,.slice A3 st.length c3,.slice A4 P.length c4,.slice A5 pp.length c5,.int .i64 m] 33)
 have hW0:=hS.alloc hB (.cells #[.int .i64 d1,.int .i64 f1,.slice A1 ss1.length c1,.int .i64 d2,.int .i64 f2,.slice A2 ss2.length c2,.slice A3 st.length c3,.slice A4 P.length c4,.slice A5 pp.length c5,.int .i64 m] 33)
 cases hok:Zp ⟨⟨d1,f1,ss1,d2,f2,ss2,st⟩,P,pp,m⟩
 ·rw [Zos hok]
  have HOK:=Lib.hid hok
  clear hok hS kb
  go_enter Tryz.func17,Tryz.ntmps17
  go_wp2_with fail
  generalize (w.alloc (.cells #[.int .i64 d1,.int .i64 f1,.slice A1 ss1.length c1,.int .i64 d2,.int .i64 f2,.slice A2 ss2.length c2,.slice A3 st.length c3,.slice A4 P.length c4,.slice A5 pp.length c5,.int .i64 m] 33))=w0 at *
  have hs0:=hb0.size
  refine (Zz d1 f1 ss1 d2 f2 ss2 st P pp m B A1 A2 A3 A4 A5 c1 c2 c3 c4 c5 w0 hW0 (by omega)).mono ?_
  rw [HOK.out]
  rintro e w1 ⟨rfl,hb1⟩
  have hB1:=hb0.trans (hb1.mono hs0)
  have hs1:=hB1.size
  go_wp2
  go_ret
  exact ⟨_,_,rfl,World.ownsRow_made w1 #[] 0 hs1 (by unfold maxLen;omega) rfl,hB1.alloc hs1 _⟩
 have hcard:=Zew (Za3.1 hok).1
 have hmm:=(Za3.1 hok).2.2.2.2
 simp only at hcard hmm
 obtain ⟨D,F,rfl,rfl,hD8,hF8,hn1,hn10,hz16⟩:=Zeo hcard
 obtain ⟨M,rfl⟩:∃ M:Nat,m=M:=⟨m.toNat,by omega⟩
 have hst40:st.length≤40:=(Zb1.1 (Za3.1 hok).1).1.2
 have HSH:Hid (Zkw ⟨⟨d1,f1,ss1,(D:Int),(F:Int),ss2,st⟩,P,pp,(M:Int)⟩=[Zen D F ss2,ZjW++Zan st.length,Zd3 P,Zde pp,ZjO++Zan M]):=by
  unfold Hid;rw [Zjp hok];unfold ZdK;simp only [Int.toNat_natCast]
 have hcat:=(Za3.1 hok).2.1
 simp only at hcat
 have hP20:P.length≤20:=(Zef.1 hcat).1
 have hpp:pp.length≤20:=(Za3.1 hok).2.2.1
 have hnm:=Zjz hcat
 have HNM:=Zk hnm
 have HOK:=Lib.hid hok
 have HCD:=Lib.hid hcard
 have HZ16:=Zk hz16
 clear hok hcard hz16 hS hcat hnm
 go_enter Tryz.func17,Tryz.ntmps17
 go_wp2_with fail
 generalize (w.alloc (.cells #[.int .i64 d1,.int .i64 f1,.slice A1 ss1.length c1,.int .i64 (D:Int),.int .i64 (F:Int),.slice A2 ss2.length c2,.slice A3 st.length c3,.slice A4 P.length c4,.slice A5 pp.length c5,.int .i64 (M:Int)] 33))=w0 at *
 have hs0:=hb0.size
 refine (Zz d1 f1 ss1 D F ss2 st P pp M B A1 A2 A3 A4 A5 c1 c2 c3 c4 c5 w0 hW0 (by omega)).mono ?_
 rw [HOK.out]
 rintro e w1 ⟨rfl,hb1⟩
 have k1:=Za kb hb1
 have hW1:=hW0.below (hb1.mono (by omega))
 have hB1:=hb0.trans (hb1.mono hs0)
 have hBw1:B≤w1.heap.size:=Nat.le_trans hB hB1.size
 have s2x:ZaJ w1 B A2 ss2.length ss2:=hW1.d.s2
 obtain ⟨L,hLP,hIt⟩:=hW1.i
 have hP:=hW1.p
 have HLP:=Lib.hid hLP
 clear hLP hW0 hW1 kb
 go_wp2
 go_loopw [3,4] (fun s i wr=>∃ k:Nat,k≤P.length∧i=.int .i64 (k:Int)∧s=.string (ZbP ZcG ((P.map (·.nm)).take k))∧Below w1.heap.size w1 wr) (fun _ i _=>P.length - (intOf i).toNat)
 case atStart=>exact ⟨0,Nat.zero_le _,rfl,by rw [List.take_zero,ZdB];rfl,Below.refl _ _⟩
 case round =>
  obtain ⟨k,hk,rfl,rfl,hb⟩:=hrel
  have hzr:=hb.size
  have k2:=Zbf k1 hb (Zg k1)
  obtain ⟨x0,x1,x2,x3,x4,x5,x6,x7,x8,x9,xl⟩:=Zq k2
  by_cases hlt:k<P.length
  ·obtain ⟨hk1,ad,hA4,hab,e0,e1,e2,e3,hSx,hnx⟩:=(hIt.below (hb.mono hBw1)).at_ (k:=k) hlt
   subst hA4
   have hP1:=Zc6 hk1
   rw [HLP.out] at hP1
   have hkm:k<(P.map (·.nm)).length:=by rw [List.length_map];exact hlt
   have hPk:(P.map (·.nm))[k]=L[k].x.nm:=by
    rw [List.getElem?_eq_getElem hlt] at hP1
    have:=Option.some.inj hP1
    rw [List.getElem_map,this]
   have h12:=HNM.out _ (List.getElem_mem hkm)
   have HK:=Lib.hid (Ze5 ZcG (P.map (·.nm)) hkm)
   have hts:=ZcE ZcG 12 ((P.map (·.nm)).take k) (fun x hx=>HNM.out x (List.mem_of_mem_take hx))
   have htl:((P.map (·.nm)).take k).length≤20:=by rw [List.length_take,List.length_map];omega
   have htc:ZcG.size=5:=rfl
   rw [hPk] at h12 HK
   obtain ⟨Q,hQ⟩:∃ Q,ZbP ZcG ((P.map (·.nm)).take k)=Q:=⟨_,rfl⟩
   rw [hQ] at HK hts ⊢
   obtain ⟨X,hX⟩:∃ X,L[k]=X:=⟨_,rfl⟩
   rw [hX] at HK h12 e0 e1 e2 e3
   clear hQ hX hPk hP1 hSx hnx
   have ov1:¬9223372036854775807<Q.size+(⟨#[32]⟩:ByteArray).size:=by rw [ZaM];omega
   have ov2:¬9223372036854775807<(Q++(⟨#[32]⟩:ByteArray)).size+X.x.nm.size:=by rw [ByteArray.size_append,ZaM];omega
   clear htc hts htl
   go_wp2
   go_roundw
   case rel=>exact ⟨k+1,by omega,by go_num,by rw [HK.out],hb⟩
   case measure=>simp [intOf];omega
  ·have hkl:k=P.length:=by omega
   have HCT:Hid (ZbP ZcG ((P.map (·.nm)).take k)=Zd3 P):=by
    unfold Hid Zd3
    rw [List.take_of_length_le (by rw [List.length_map];omega)]
   rw [HCT.out]
   clear HCT
   subst hkl
   obtain ⟨w2,hw2⟩:∃ Q9:World,Q9=wr:=⟨_,rfl⟩
   subst hw2
   clear hIt HNM
   go_wp2
   go_loopw [5,6] (fun s i wr=>∃ k:Nat,k≤10∧i=.int .i64 (k:Int)∧s=.string (ZbP Zcd ((ZbU pp).take k))∧Below w2.heap.size w2 wr) (fun _ i _=>10 - (intOf i).toNat)
   case atStart=>exact ⟨0,Nat.zero_le _,rfl,by rw [List.take_zero,ZdB];rfl,Below.refl _ _⟩
   case round =>
    obtain ⟨k,hk,rfl,rfl,hbk⟩:=hrel
    have hzk:=hbk.size
    have k3:=Zbf k2 hbk (Zg k2)
    clear x0 x1 x2 x3 x4 x5 x6 x7 x8 x9 xl
    by_cases hlt:k<10
    ·have hkm:k<(ZbU pp).length:=by rw [ZdH];exact hlt
     have hbd:=Zgv pp (k:Int) hpp
     have h10:=Zdl pp hpp _ (List.getElem_mem hkm)
     have HK:=Lib.hid (Ze5 Zcd (ZbU pp) hkm)
     rw [Zi0 pp hkm] at h10 HK
     have hts:=ZcE Zcd 10 ((ZbU pp).take k) (fun x hx=>Zdl pp hpp x (List.mem_of_mem_take hx))
     have htl:((ZbU pp).take k).length≤10:=by rw [List.length_take];omega
     have htc:Zcd.size=6:=rfl
     obtain ⟨Q,hQ⟩:∃ Q,ZbP Zcd ((ZbU pp).take k)=Q:=⟨_,rfl⟩
     rw [hQ] at HK hts ⊢
     clear hQ
     have kS:=fun (W:World) (h:Below w1.heap.size w1 W)=>ZfW pp (k:Int) B A5 pp.length c5 W (hP.below (h.mono hBw1)) (Nat.le_trans hBw1 h.size)
     obtain ⟨z,hz⟩:∃ z:Nat,Zbn pp (k:Int)=z:=⟨(Zbn pp (k:Int)).toNat,by omega⟩
     rw [hz] at hbd h10 HK
     simp only [hz] at kS
     rw [Int.toNat_natCast] at h10 HK
     have KS:=Zk kS
     clear kS hz
     have ov1:¬9223372036854775807<Q.size+(⟨#[32]⟩:ByteArray).size:=by rw [ZaM];omega
     have ov2:¬9223372036854775807<(Q++(⟨#[32]⟩:ByteArray)).size+(Zan z).size:=by rw [ByteArray.size_append,ZaM];omega
     obtain ⟨y0,y1,y2,y3,y4,y5,y6,y7,y8,y9,yl⟩:=Zq k3
     clear htc hts htl
     go_wp2_with fail
     refine (KS.out wr (hb.trans (hbk.mono hb.size))).mono ?_
     rintro e w3 ⟨rfl,hb3⟩
     have hb3':=hbk.trans (hb3.mono hzk)
     go_wp2_with fail
     refine (ZbJ z w3 (by omega)).mono ?_
     rintro e w4 ⟨rfl,hb4⟩
     have hb4':=hb3'.trans (hb4.mono hb3'.size)
     go_wp2
     go_roundw
     case rel=>exact ⟨k+1,by omega,by go_num,by rw [HK.out],hb4'⟩
     case measure=>simp [intOf];omega
    ·have hkl:((k:Nat):Int)=10:=by omega
     have HCS:Hid (ZbP Zcd ((ZbU pp).take k)=Zde pp):=by
      unfold Hid Zde
      rw [List.take_of_length_le (by rw [ZdH];omega)]
     rw [HCS.out,hkl]
     have hB2r:=hb.trans (hbk.mono hb.size)
     have hBr:=hB1.trans (hB2r.mono hB1.size)
     have s3x:=s2x.below (hB2r.mono hBw1)
     have hzr3:=hBr.size
     have hBwr:B≤wr.heap.size:=Nat.le_trans hB hzr3
     have hcd2:=HCD.out
     have kC:=fun (W:World) (h:Below wr.heap.size wr W)=>Zl1 D F A2 ss2.length c2 ss2 W hcd2 ((s3x.below (h.mono hBwr)).more (Nat.le_trans hBwr h.size))
     have kS:=fun (W:World)=>ZbJ st.length W (by omega)
     have kM:=fun (W:World)=>ZbJ M W (by omega)
     have KC:=Zk kC
     have KS:=Zk kS
     have KM:=Zk kM
     have z1:=ZcM (n:=st.length) (by omega)
     have z2:=ZcM (n:=M) (by omega)
     have ov1:¬9223372036854775807<6+(Zan st.length).size:=by omega
     have ov2:¬9223372036854775807<6+(Zan M).size:=by omega
     obtain ⟨y0,y1,y2,y3,y4,y5,y6,y7,y8,y9,yl⟩:=Zq k3
     clear kC kS kM hcd2 z1 z2 k3 k2 k1 hbk hb hP s2x hB1 hb0 hb1
     go_wp2_with fail
     go_region_held3 (fun W=>(∀ b o,b<wr.heap.size→W.cell? ⟨b,o,none⟩=(wr).cell? ⟨b,o,none⟩)∧(∀ b o,b<wr.heap.size→W.frozen? ⟨b,o,none⟩=(wr).frozen? ⟨b,o,none⟩)∧Below (wr.heap.size) (wr) W) (exact ZbA bel) (first|(go_at_call 50;have hq:=(‹_∧_∧Below _ _ _›).2.2;refine (KC.out _ hq).mono ?_;rintro e w5 ⟨rfl,hb5⟩;have hq5:=hq.size;have hs5:=hb5.size;(try simp at hs5))|(go_at_call_of 48 (Value.int .i64 (st.length:Int));have hq:=(‹_∧_∧Below _ _ _›).2.2;refine (KS.out _).mono ?_;rintro e w6 ⟨rfl,hb6⟩;have hq6:=hq.size;have hs6:=hb6.size;(try simp at hs6))|(go_at_call_of 48 (Value.int .i64 (M:Int));have hq:=(‹_∧_∧Below _ _ _›).2.2;refine (KM.out _).mono ?_;rintro e w7 ⟨rfl,hb7⟩;have hq7:=hq.size;have hs7:=hb7.size;(try simp at hs7)))
     have hB7:Below wr.heap.size wr w7:=bel
     have hBw7:Below w.heap.size w w7:=hBr.trans (hB7.mono hzr3)
     go_wp2
     go_ret
     rw [HSH.out]
     exact ⟨_,_,rfl,World.ownsRow_lit w7 (base:=w.heap.size) (e:=9) (size:=1) #[.string (Zen D F ss2),.string (⟨#[115,116,101,112,115,32]⟩++Zan st.length),.string (Zd3 P),.string (Zde pp),.string (⟨#[109,111,110,101,121,32]⟩++Zan M)] 5 hBw7.size (by unfold maxLen;omega) rfl,hBw7.alloc hBw7.size _⟩
end Go.Proofs.YtlimlolciekimaaGreatDoor
