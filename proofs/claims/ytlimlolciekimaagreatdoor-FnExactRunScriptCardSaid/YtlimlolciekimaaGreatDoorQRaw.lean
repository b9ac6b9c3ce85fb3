/- Contracts of the program's and the reference's functions (Ctx6). -/
import Derived.Test.YtlimlolciekimaaGreatDoorRows
import Derived.Test.YtlimlolciekimaaGreatDoorQRau
import Derived.Test.YtlimlolciekimaaGreatDoorQRam
import Derived.Test.YtlimlolciekimaaGreatDoorQRar
import Derived.Test.YtlimlolciekimaaGreatDoorQRav
import Derived.Test.YtlimlolciekimaaGreatDoorQRr
import Derived.Test.YtlimlolciekimaaGreatDoorQRas
namespace Go.Proofs.YtlimlolciekimaaGreatDoor
set_option maxHeartbeats 1600000
open Go.ChangeShapes Go.WideShapes Go.ChangeAt Go.RowKit
set_option linter.unusedVariables false
set_option linter.unusedSimpArgs false
set_option maxRecDepth 10000
theorem ZlK {xs:List Int} (h:∀ x∈xs,0≤x∧x≤1280):∀ s∈ZcI xs,s.size≤1000:=by
 intro s hs
 unfold ZcI at hs
 obtain ⟨x,hx,rfl⟩:=List.mem_map.1 hs
 have h1:=h x hx
 have:=ZcM (n:=x.toNat) (by omega)
 omega
theorem ZkI {s:ByteArray} {l:List Zbw} (h:ZcR s=some l):l.length≤40∧∀ x∈l,ZaW x.k x.a x.b=true:=by
 unfold ZcR at h
 split at h
 ·cases hq:Zby (Zbu s) with
  |none=>rw [hq] at h;cases h
  |some q =>
   rw [hq] at h
   simp only [Option.bind_some] at h
   split at h
   ·rename_i h4
    injection h with h
    subst h
    exact ⟨h4,(ZgV _ _ hq).2⟩
   ·cases h
 ·cases h
theorem Zm9 (s:ByteArray):OkS (Zdp s).1 1048576:=by
 cases h:ZcR s with
 |none =>
  rw [Zc8 h]
  exact ⟨Nat.zero_le _,fun s hs=>by cases hs⟩
 |some l =>
  rw [ZfA h]
  obtain ⟨h40,hok⟩:=ZkI h
  have hsr:=ZfK h40 hok
  show OkS (ZcI (ZaB ZaO l).2++ZdK (ZaB ZaO l).1) 1048576
  refine ⟨?_,fun x hx=>?_⟩
  ·rw [List.length_append]
   unfold ZcI
   rw [List.length_map,hsr.2.1]
   show l.length+5≤_
   omega
  ·rcases List.mem_append.1 hx with h|h
   ·have:=ZlK hsr.2.2.1 x h;omega
   ·have:=Zl2 hsr.1 x h;omega
set_option maxHeartbeats 12800000 in
theorem Zj7 (s:ByteArray) (w:World) (hz:s.size≤16777216) :
  Calls Tryz.prog 35 #[.string s] w (Zoo (Zdp s).1 (Zdp s).2 w):=by
 have hN0:(w.alloc (.cells #[] 9)).ownsRow w.heap.size 9 1 (.slice (some ⟨w.heap.size,0,none⟩) 0 0) 0 []:=World.ownsRow_made w #[] 0 (Nat.le_refl _) (by unfold maxLen;omega) rfl
 have hb0:Below w.heap.size w (w.alloc (.cells #[] 9)):=(Below.refl _ _).alloc (Nat.le_refl _) _
 by_cases hlong:20000<s.size
 ·have HR:=Lib.hid (Zc8 (ZgZ hlong))
  go_enter Tryz.func35,Tryz.ntmps35
  go_wp2
  go_ret2
  rw [HR.out]
  exact ⟨_,_,rfl,Zaa.of hN0 (Nat.le_refl _),hb0⟩
 have hBAD:=fun (h:Zby (Zbu s)=none)=>Zc8 (Zhf (s:=s) h)
 have hMANY:=fun (la:List Zbw) (h:Zby (Zbu s)=some la) (h2:40<la.length)=>Zc8 (Zhh (s:=s) h h2)
 have hYES:=fun (la:List Zbw) (h:Zby (Zbu s)=some la) (h2:la.length≤40)=>Zib (s:=s) (by omega) h h2
 have HBAD:=Zk hBAD
 have HMANY:=Zk hMANY
 have HYES:=Zk hYES
 clear hBAD hMANY hYES
 obtain ⟨i0,hi0,hz0,hz1,hz2⟩:=info_parts Zfx
 obtain ⟨j0,hj0,hy0,hy1,hy2⟩:=info_parts ZeX
 generalize hw0:w.alloc (.cells #[] 9)=w0 at *
 have hs0:=hb0.size
 have hO1:(w0.alloc (.cells #[] 61)).ownsRow w.heap.size 61 3 (.slice (some ⟨w0.heap.size,0,none⟩) 0 0) 0 []:=World.ownsRow_made w0 #[] 0 hs0 (by unfold maxLen;omega) rfl
 have hN1:=hN0.alloc (.cells #[] 61)
 have hb1:=hb0.alloc hs0 (.cells #[] 61)
 go_enter Tryz.func35,Tryz.ntmps35
 go_wp2
 try rw [hw0]
 clear hw0
 generalize w0.alloc (.cells #[] 61)=w1 at *
 go_loopw [5,6,7,8,9,10,12] (fun o bv iv _ _ _ _ wr=>∃ (i b M:Nat) (la:List Zbw) (A':Option Addr) (c':Nat),i≤s.size+1∧M≤i∧b≤i∧iv=.int .i64 (i:Int)∧bv=.int .i64 (b:Int)∧o=.slice A' M c'∧Hid (la.length=M)∧Hid (SB s i b la)∧wr.ownsRow w.heap.size 61 3 (.slice A' M c') M (la.flatMap ZdG)∧wr.ownsRow w.heap.size 9 1 (.slice (some ⟨w.heap.size,0,none⟩) 0 0) 0 []∧Below w.heap.size w wr) (fun _ _ iv _ _ _ _ _=>s.size+1 - (intOf iv).toNat)
 case atStart=>exact ⟨0,0,0,[],_,_,by omega,Nat.zero_le _,Nat.zero_le _,rfl,rfl,rfl,rfl,SB.start s,hO1,hN1,hb1⟩
 case round =>
  clear hO1 hN1 hb1
  obtain ⟨i,b,M,la,A',c',hi,hMi,hbi,rfl,rfl,rfl,HLN,HSB,hown,hnone,hb⟩:=hrel
  have hzr:=hb.size
  by_cases hle:i≤s.size
  ·by_cases hm:∃ h:i<s.size,¬s[i]=10
   ·obtain ⟨hlt,hc⟩:=hm
    have HS2:=Lib.hid (HSB.out.more hlt hc)
    have b1:((s[i].toNat:Int)==10)=false:=by
     rw [beq_eq_false_iff_ne];intro h;exact hc (UInt8.toNat_inj.1 (by show s[i].toNat=10;omega))
    clear hc
    go_wp2
    go_roundw
    case rel=>exact ⟨i+1,b,M,la,A',c',by omega,by omega,by omega,by go_num,rfl,rfl,HLN,HS2,hown,hnone,hb⟩
    case measure=>simp [intOf];omega
   ·have hcut:∀ h:i<s.size,s[i]=10:=fun h=>Classical.byContradiction fun q=>hm ⟨h,q⟩
    have hb1:∀ h:i<s.size,((s[i].toNat:Int)==10)=true:=fun h=>by rw [hcut h];rfl
    have hSK:=fun h1 h2=>HSB.out.skip hle hcut h1 h2
    have hAC:=fun h1 h2=>HSB.out.act hle hcut h1 h2
    have hBD:=fun h1 h2=>HBAD.out (HSB.out.bad hle hcut h1 h2)
    have hbI:(b:Int)≤(i:Int):=by omega
    have hiI:(i:Int)≤(s.size:Int):=by omega
    have hx2:(s.extract b i).size≤20000:=by rw [ByteArray.size_extract];omega
    have hor:(∃ h:i<s.size,((s[i].toNat:Int)==10)=true)∨¬(i:Int)<(s.size:Int):=by
     by_cases h:i<s.size
     ·exact .inl ⟨h,hb1 h⟩
     ·exact .inr (by omega)
    obtain ⟨x,hx⟩:∃ x,s.extract b i=x:=⟨_,rfl⟩
    rw [hx] at hSK hAC hBD hx2
    have HSK:=Zk hSK
    have HAC:=Zk hAC
    have HBD:=Zk hBD
    clear hSK hAC hBD hcut hm hb1
    rcases hor with ⟨hlt,b1⟩|hki
    all_goals
     go_wp2_with fail
     refine (Zfy x wr (by omega)).mono ?_
     rintro e w2 (⟨hf,Af,cf,rfl,hb2⟩|⟨hf,Af,cf,rfl,hof,hb2⟩)
     ·have HR:=Lib.hid (HBD.out (by rw [hf];simp) (by rw [hf];simp))
      have HP:=Lib.hid (Zgp hf)
      have hb3:=hb.trans (hb2.mono hzr)
      have hnone3:=Zx hnone hb2
      go_wp2_with fail
      refine (ZfG x w2 (by omega)).mono ?_
      rw [HP.out]
      simp only [ZcW]
      rintro e w3 ⟨rfl,hb4⟩
      have hb5:=hb3.trans (hb4.mono hb3.size)
      have hnone4:=(Zx hnone3 hb4).alloc (.cells #[.int .i64 0,.int .i64 0,.int .i64 0] 61)
      go_wp2
      go_ret2
      rw [HR.out]
      exact ⟨_,_,rfl,Zaa.of hnone4 (Nat.le_refl _),hb5.alloc hb5.size _⟩
     ·have hb3:=hb.trans (hb2.mono hzr)
      have hown3:=Zx hown hb2
      have hnone3:=Zx hnone hb2
      obtain ⟨n,hn⟩:∃ n,(ZaP x).length=n:=⟨_,rfl⟩
      have HSK2:=Zk (fun h=>HSK.out hf (List.eq_nil_of_length_eq_zero (hn.trans h)))
      have hne:1≤n→¬(ZbI x=true∧ZaP x=[]):=fun h q=>by rw [q.2] at hn;simp at hn;omega
      have HNE:=Zk hne
      clear hne
      have HPN:=Zk (fun h=>Zfi (s:=x) h)
      have HPY:=Zk (fun h=>Zfa (s:=x) hf h)
      have HAC2:=Zk (fun h=>HAC.out hf h)
      rw [hn] at hof ⊢
      clear hn hof HSK HAC
      by_cases hn0:n=0
      ·subst hn0
       have HS2:=Lib.hid (HSK2.out rfl)
       go_wp2
       go_roundw
       case rel=>exact ⟨i+1,i+1,M,la,A',c',by omega,by omega,by omega,by go_num,by go_num,rfl,HLN,HS2,hown3,hnone3,hb3⟩
       case measure=>simp [intOf];omega
      ·have hnz:((n:Int)==0)=false:=by rw [beq_eq_false_iff_ne];omega
       cases hp:ZbE (ZaP x)
       ·have HR:=Lib.hid (HBD.out (HNE.out (by omega)) (by rw [hp];simp))
        have HP:=Lib.hid (HPN.out hp)
        clear hp
        go_wp2_with fail
        refine (ZfG x w2 (by omega)).mono ?_
        rw [HP.out]
        simp only [ZcW]
        rintro e w3 ⟨rfl,hb4⟩
        have hb5:=hb3.trans (hb4.mono hb3.size)
        have hnone4:=(Zx hnone3 hb4).alloc (.cells #[.int .i64 0,.int .i64 0,.int .i64 0] 61)
        go_wp2
        go_ret2
        rw [HR.out]
        exact ⟨_,_,rfl,Zaa.of hnone4 (Nat.le_refl _),hb5.alloc hb5.size _⟩
       ·have HP:=Lib.hid (HPY.out hp)
        have HA2:=Lib.hid (HAC2.out hp)
        unfold ZoS at HA2
        clear hp
        obtain ⟨K,hK⟩:∃ q,pK (ZaP x)=q:=⟨_,rfl⟩
        obtain ⟨X,hX⟩:∃ q,pN (ZaP x) 1=q:=⟨_,rfl⟩
        obtain ⟨Y,hY⟩:∃ q,pN (ZaP x) 2=q:=⟨_,rfl⟩
        rw [hK,hX,hY] at HP HA2
        clear hK hX hY
        have HSN:=Lib.hid (ZhA la K X Y)
        have HONE:=Zk (Zkv (K:Int) (X:Int) (Y:Int))
        go_wp2_with fail
        refine (ZfG x w2 (by omega)).mono ?_
        rw [HP.out]
        simp only [ZcW]
        rintro e w3 ⟨rfl,hb4⟩
        have hb5:=hb3.trans (hb4.mono hb3.size)
        go_upto_region 17 with fail
        have kA:=Zy w3 (.cells #[.int .i64 (K:Int),.int .i64 (X:Int),.int .i64 (Y:Int)] 61)
        have hown4:=(Zx hown3 hb4).alloc (.cells #[.int .i64 (K:Int),.int .i64 (X:Int),.int .i64 (Y:Int)] 61)
        have hnone4:=(Zx hnone3 hb4).alloc (.cells #[.int .i64 (K:Int),.int .i64 (X:Int),.int .i64 (Y:Int)] 61)
        have hb6:=hb5.alloc hb5.size (.cells #[.int .i64 (K:Int),.int .i64 (X:Int),.int .i64 (Y:Int)] 61)
        generalize w3.alloc (.cells #[.int .i64 (K:Int),.int .i64 (X:Int),.int .i64 (Y:Int)] 61)=w4 at *
        obtain ⟨bA,hbA⟩:∃ q,q=w3.heap.size:=⟨_,rfl⟩
        rw [← hbA] at kA
        try rw [← hbA]
        clear hbA hown hnone hown3 hnone3 hb2 hb4 hb3 hb5
        have hs4:=hb6.size
        obtain ⟨y0,y1,y2,yl⟩:=Za8 kA
        go_wp2_with (at_builtin;refine ZeM _ rfl (.tmp 64) (.tmp 66) _ rfl w.heap.size 61 i0 _ 3 24 Tryz.underlying34 hi0 hz0 hz1 hz2 rfl (by omega) (.slice A' M c') M _ rfl (hown4.alloc _) (w4.heap.size+1) (some ⟨w4.heap.size,0,none⟩) 1 1 [.int .i64 (K:Int),.int .i64 (X:Int),.int .i64 (Y:Int)] rfl (Zer w4 #[.int .i64 (K:Int),.int .i64 (X:Int),.int .i64 (Y:Int)] 61 1 3 rfl) (Ze HONE) ?_ ?_ ?_ (M+1) _ rfl HSN.out ?_;(unfold maxLen;omega);omega;(simp;omega);intro A2 c2 w5 ho5 hg5 hb7)
        go_roundw
        case rel =>
         have hnone5:=Za9 (hnone4.alloc (.cells #[.int .i64 (K:Int),.int .i64 (X:Int),.int .i64 (Y:Int)] 61)) hg5 (ZaS (hnone4.alloc (.cells #[.int .i64 (K:Int),.int .i64 (X:Int),.int .i64 (Y:Int)] 61)) (hown4.alloc (.cells #[.int .i64 (K:Int),.int .i64 (X:Int),.int .i64 (Y:Int)] 61)) (by decide))
         exact ⟨i+1,i+1,M+1,_,A2,c2,by omega,by omega,by omega,by go_num,by go_num,rfl,by unfold Hid;simp [HLN.out],HA2,ho5,hnone5,(hb6.alloc hs4 _).trans hb7⟩
        case measure=>simp [intOf];omega
  ·have hkN:i=s.size+1:=by omega
   have hsc:=HSB.out.fin hkN
   have hok:=HSB.out.ok
   have hMN:M≤20001:=by omega
   by_cases h40:40<M
   ·have HR:=Lib.hid (HMANY.out la hsc (by rw [HLN.out];exact h40))
    clear hsc hok
    go_wp2
    go_ret2
    rw [HR.out]
    exact ⟨_,_,rfl,Zaa.of hnone (Nat.le_refl _),hb⟩
   ·have hlM:=HLN.out
    have hsr:=ZfK (la:=la) (by omega) hok
    have HYS:=ZfA (HYES.out la hsc (by omega))
    unfold ZoL at HYS
    clear hnone
    have kSW:∀ W:World,Calls Tryz.prog 77 #[] W (ZiA ZaO.D.d1 ZaO.D.f1 ZaO.D.ss1 ZaO.D.d2 ZaO.D.f2 ZaO.D.ss2 ZaO.D.st ZaO.P ZaO.pp ZaO.m W):=fun W=>ZgT W
    have hz3:=ZgL
    generalize ZaO=SW at *
    obtain ⟨⟨a1,b1',sS1,a2,b2',sS2,sT⟩,sP,spp,sm⟩:=SW
    simp only at hsr HYS kSW hz3
    have kRA:=fun (W:World) (lo hi:Nat) (A1 A2 A3 A4 A5:Option Addr) (c1 c2 c3 c4 c5:Nat) (h1:Zau W lo hi A1 c1 A2 c2 A3 c3 A4 c4 A5 c5 ⟨a1,b1',sS1,a2,b2',sS2,sT⟩ sP spp) (h2:ZgC W W.heap.size A' la.length la)=>Znc a1 b1' sS1 a2 b2' sS2 sT sP spp sm la W.heap.size A1 A2 A3 A4 A5 c1 c2 c3 c4 c5 A' c' W (h1.rd (hz3.more (by omega))) h2 (Nat.le_refl _) hz3
    generalize ZaB _ la=R at *
    obtain ⟨⟨⟨e1,g1,ts1,e2,g2,ts2,tt⟩,Q,qq,mm⟩,xs⟩:=R
    simp only at hsr HYS kRA
    obtain ⟨hwk,hxl,hnum,hzR⟩:=hsr
    rw [hlM] at hxl
    simp only [hlM] at kRA
    have HXL:=Lib.hid hxl
    have HYSH:=Lib.hid HYS
    have HNUM:=Zk hnum
    have KSW:=Zk kSW
    have KRA:=Zk kRA
    have HLA:=Lib.hid hlM
    clear kSW kRA hxl HYS hnum hlM hsc hok hz3
    go_wp2_with fail
    refine (KSW.out wr).mono ?_
    rintro e w2 ⟨S1,r1,S2,r2,S3,r3,S4,r4,S5,r5,rfl,oS,hb2⟩
    have hown2:=Zx hown hb2
    have BB2:=hb.trans (hb2.mono hzr)
    have hAc:ZgC w2 w2.heap.size A' M la:=⟨Zal.of_own hown2,by omega⟩
    clear hown hown2 KSW
    go_wp2_with fail
    refine (KRA.out w2 _ _ S1 S2 S3 S4 S5 r1 r2 r3 r4 r5 oS hAc).mono ?_
    rintro e w3 ⟨B1,b1,B2,b2,B3,b3,B4,b4,B5,b5,B6,b6,rfl,oX,hb3⟩
    obtain ⟨l1,h1,l2,h2,hr,ha,oW,oN⟩:=oX.all
    have B3':=BB2.trans (hb3.mono BB2.size)
    have hrN:=oN.rd
    rw [HXL.out] at hrN ⊢
    clear hAc oS KRA oX oN hb2 hb3 hr ha
    go_upto_region 21 with fail
    have kW:=Zy w3 (.cells #[.int .i64 e1,.int .i64 g1,.slice B1 ts1.length b1,.int .i64 e2,.int .i64 g2,.slice B2 ts2.length b2,.slice B3 tt.length b3,.slice B4 Q.length b4,.slice B5 qq.length b5,.int .i64 mm] 33)
    have oW4:=oW.alloc (.cells #[.int .i64 e1,.int .i64 g1,.slice B1 ts1.length b1,.int .i64 e2,.int .i64 g2,.slice B2 ts2.length b2,.slice B3 tt.length b3,.slice B4 Q.length b4,.slice B5 qq.length b5,.int .i64 mm] 33)
    have B4':=B3'.alloc B3'.size (.cells #[.int .i64 e1,.int .i64 g1,.slice B1 ts1.length b1,.int .i64 e2,.int .i64 g2,.slice B2 ts2.length b2,.slice B3 tt.length b3,.slice B4 Q.length b4,.slice B5 qq.length b5,.int .i64 mm] 33)
    have b34:Below w3.heap.size w3 (w3.alloc (.cells #[.int .i64 e1,.int .i64 g1,.slice B1 ts1.length b1,.int .i64 e2,.int .i64 g2,.slice B2 ts2.length b2,.slice B3 tt.length b3,.slice B4 Q.length b4,.slice B5 qq.length b5,.int .i64 mm] 33)):=(Below.refl _ _).alloc (Nat.le_refl _) _
    have hrN4:=(hrN.below b34).more b34.size
    generalize w3.alloc (.cells #[.int .i64 e1,.int .i64 g1,.slice B1 ts1.length b1,.int .i64 e2,.int .i64 g2,.slice B2 ts2.length b2,.slice B3 tt.length b3,.slice B4 Q.length b4,.slice B5 qq.length b5,.int .i64 mm] 33)=w4 at *
    obtain ⟨bW,hbW⟩:∃ q,q=w3.heap.size:=⟨_,rfl⟩
    rw [← hbW] at kW
    try rw [← hbW]
    clear hbW oW BB2 B3' b34 hrN hb
    have hOut:(w4.alloc (.cells #[] 9)).ownsRow w4.heap.size 9 1 (.slice (some ⟨w4.heap.size,0,none⟩) 0 0) 0 []:=World.ownsRow_made w4 #[] 0 (Nat.le_refl _) (by unfold maxLen;omega) rfl
    have b45:Below w4.heap.size w4 (w4.alloc (.cells #[] 9)):=(Below.refl _ _).alloc (Nat.le_refl _) _
    have hz4:=B4'.size
    go_wp2
    go_loopw [15,16] (fun o i wr=>∃ (k:Nat) (Ao:Option Addr) (co:Nat),k≤M∧i=.int .i64 (k:Int)∧o=.slice Ao k co∧wr.ownsRow w4.heap.size 9 1 (.slice Ao k co) k ((ZcI (xs.take k)).map Value.string)∧Below w4.heap.size w4 wr) (fun _ i _=>M - (intOf i).toNat)
    case atStart=>exact ⟨0,_,_,Nat.zero_le _,rfl,rfl,(by unfold ZcI;simpa using hOut),b45⟩
    case round =>
     clear hOut b45
     obtain ⟨k,Ao,co,hkM,rfl,rfl,hro,hbq⟩:=hrel
     have hzq:=hbq.size
     by_cases hlt2:k<M
     ·obtain ⟨hk1,ad,rfl,hab,hcx⟩:=Zhu (hrN4.below hbq) hlt2
      have hnx:=HNUM.out _ (List.getElem_mem hk1)
      obtain ⟨z,hz9⟩:∃ z:Nat,xs[k]=(z:Int):=⟨xs[k].toNat,by omega⟩
      have HSN:=Lib.hid (Zi6 xs hk1 z hz9)
      rw [hz9] at hcx hnx
      have HONE:=Zk (Zgi [Zan z])
      clear hz9
      go_wp2_with fail
      refine (ZbJ z wr (by omega)).mono ?_
      rintro e w6 ⟨rfl,hb6⟩
      have hro6:=Zx hro hb6
      have B46:=hbq.trans (hb6.mono hzq)
      have hz6:=B46.size
      clear hro hb6 hbq
      go_wp2_with (at_builtin;refine Zay _ rfl (.tmp 85) (.tmp 91) _ rfl w4.heap.size 9 j0 _ 1 16 Tryz.underlying24 hj0 hy0 hy1 hy2 rfl (by omega) (.slice Ao k co) k _ rfl (hro6.alloc _) (_+1) (some ⟨_,0,none⟩) 1 1 [Value.string (Zan z)] rfl (Zc7 _ _) (Ze HONE) ?_ ?_ ?_ (k+1) _ rfl HSN.out ?_;(unfold maxLen;omega);omega;(simp;omega);intro A7 c7 w7 ho7 hb7)
      go_roundw
      case rel=>exact ⟨k+1,A7,c7,by omega,by go_num,rfl,ho7,(B46.alloc hz6 _).trans hb7⟩
      case measure=>simp [intOf];omega
     ·have hkM2:k=M:=by omega
      subst hkM2
      have hxt:xs.take k=xs:=List.take_of_length_le (by rw [HXL.out];exact Nat.le_refl _)
      rw [hxt] at hro
      clear hxt hrN4
      have kq:=Zbf kW hbq (Zg kW)
      have oWq:=oW4.below hbq
      have Bq:=B4'.trans (hbq.mono hz4)
      have hsl:(ZdK ⟨⟨e1,g1,ts1,e2,g2,ts2,tt⟩,Q,qq,mm⟩).length=5:=rfl
      have kF:∀ (W:World) (h:Zau W l1 h1 B1 b1 B2 b2 B3 b3 B4 b4 B5 b5 ⟨e1,g1,ts1,e2,g2,ts2,tt⟩ Q qq),Calls Tryz.prog 17 #[.agg #[.int .i64 e1,.int .i64 g1,.slice B1 ts1.length b1,.int .i64 e2,.int .i64 g2,.slice B2 ts2.length b2,.slice B3 tt.length b3,.slice B4 Q.length b4,.slice B5 qq.length b5,.int .i64 mm]] W (Zd9 W.heap.size (ZdK ⟨⟨e1,g1,ts1,e2,g2,ts2,tt⟩,Q,qq,mm⟩) W):=fun W h=>by
       rw [← Zjp hwk]
       exact ZgF e1 g1 ts1 e2 g2 ts2 tt Q qq mm W.heap.size B1 B2 B3 B4 B5 b1 b2 b3 b4 b5 W (h.rd (hzR.more (by omega))) (Nat.le_refl _)
      generalize ZdK ⟨⟨e1,g1,ts1,e2,g2,ts2,tt⟩,Q,qq,mm⟩=sh at *
      have KF:=Zk kF
      have HSL:=Lib.hid hsl
      clear kF hwk hzR oW4 kW hsl
      obtain ⟨x0,x1,x2,x3,x4,x5,x6,x7,x8,x9,xl⟩:=Zq kq
      go_wp2_with fail
      refine (KF.out wr oWq).mono ?_
      rintro e w8 ⟨Ar,cr,rfl,hrr,hb8⟩
      rw [HSL.out] at hrr ⊢
      have hro8:=Zx hro hb8
      have B48:=hbq.trans (hb8.mono hzq)
      have hz8:=B48.size
      have HSM:=Lib.hid (show (ZcI xs).map Value.string++sh.map Value.string=(ZcI xs++sh).map Value.string by simp)
      have HONE:=Zk (Zgi sh)
      have hrd8:=Zal.of_own hrr
      clear x0 x1 x2 x3 x4 x5 x6 x7 x8 x9 xl hro hb8 kq oWq hrr KF
      go_wp2_with (at_builtin;refine Zay _ rfl (.tmp 93) (.tmp 95) _ rfl w4.heap.size 9 j0 _ 1 16 Tryz.underlying24 hj0 hy0 hy1 hy2 rfl (by omega) (.slice Ao k co) k _ rfl hro8 w8.heap.size Ar 5 cr (sh.map Value.string) rfl hrd8 (Ze HONE) ?_ ?_ hz8 (k+5) _ rfl HSM.out ?_;(unfold maxLen;omega);omega;intro A9 c9 w9 ho9 hb9)
      go_ret2
      have hlen:(ZcI xs++sh).length=k+5:=by rw [List.length_append,HSL.out];unfold ZcI;rw [List.length_map,HXL.out]
      have B49:=B48.trans hb9
      rw [HYSH.out]
      exact ⟨A9,c9,by rw [hlen];rfl,⟨by rw [hlen];exact Zbr ho9 hz4,fun q hq=>by rw [hlen] at hq;exact (ho9.lt q hq).2⟩,B4'.trans (B49.mono hz4)⟩
end Go.Proofs.YtlimlolciekimaaGreatDoor
