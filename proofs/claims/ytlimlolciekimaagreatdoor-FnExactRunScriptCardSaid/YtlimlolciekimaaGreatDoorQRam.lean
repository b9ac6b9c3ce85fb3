/- Contracts of the program's and the reference's functions (Txt4). -/
import Derived.Test.YtlimlolciekimaaGreatDoorRows
import Derived.Test.YtlimlolciekimaaGreatDoorQRal
namespace Go.Proofs.YtlimlolciekimaaGreatDoor
set_option maxHeartbeats 1600000
open Go.ChangeShapes Go.WideShapes Go.ChangeAt Go.RowKit
set_option linter.unusedVariables false
set_option linter.unusedSimpArgs false
set_option maxRecDepth 10000
def Zhb (s:ByteArray):(Nat×Nat×Nat)×Bool:=if ZbI s=true then ZhW (ZaP s) else ((0,0,0),false)
abbrev ZcW (r:(Nat×Nat×Nat)×Bool):Value:=.tuple #[.agg #[.int .i64 (r.1.1:Int),.int .i64 (r.1.2.1:Int),.int .i64 (r.1.2.2:Int)],.bool r.2]
theorem Zgp {s:ByteArray} (h:ZbI s=false):Zhb s=((0,0,0),false):=by unfold Zhb;rw [h];rfl
theorem Zfi {s:ByteArray} (h:ZbE (ZaP s)=false):Zhb s=((0,0,0),false):=by unfold Zhb;rw [Znk h];split <;> rfl
theorem Zfa {s:ByteArray} (h0:ZbI s=true) (h:ZbE (ZaP s)=true):Zhb s=((pK (ZaP s),pN (ZaP s) 1,pN (ZaP s) 2),true):=by unfold Zhb;rw [if_pos h0,Zlq h]
theorem Zn4 (p:List ByteArray) (k:Nat):ZjV p k=((Zcx k (Zdo p 0) (Zdo p 1)).2&&decide ((Zcx k (Zdo p 0) (Zdo p 1)).1=ZbC p)):=by
 unfold ZjV Zcx
 cases h:ZaW k (Zdo p 0) (Zdo p 1) with
 |false=>simp
 |true=>simp
theorem ZeN {w:World} {g:Nat} {t:TypeId} {a b c:Value} (h:w.heap[g]?=some (.cells #[a,b,c] t (0,0))) :
  w.frozen? ⟨g,0,none⟩=false∧w.frozen? ⟨g,1,none⟩=false∧w.frozen? ⟨g,2,none⟩=false :=
 ⟨(Zc h 0).2,(Zc h 1).2,(Zc h 2).2⟩
theorem ZhH {B g:Nat} {a w:World} (h:Below B a w) (hg:B≤g) (x y z:Value):Below B a (((w.setCell ⟨g,0,none⟩ x).setCell ⟨g,1,none⟩ y).setCell ⟨g,2,none⟩ z) :=
 ((h.setCell (p:=⟨g,0,none⟩) hg x).setCell (p:=⟨g,1,none⟩) hg y).setCell (p:=⟨g,2,none⟩) hg z
theorem ZmS {p:List ByteArray} {j:Nat} (hj:j+1<p.length):(Zce p).take (j+1)=(Zce p).take j++[l40 p[j+1]]:=by
 unfold Zce
 have h:j<((p.drop 1).map l40).length:=by rw [List.length_map,List.length_drop];omega
 rw [List.take_succ_eq_append_getElem h,List.getElem_map,List.getElem_drop]
 simp [Nat.add_comm]
theorem Znh {W:World} (u v:Value) (t:TypeId):Zal (W.alloc (.cells #[u,v] t)) (W.heap.size+1) 1 (some ⟨W.heap.size,0,none⟩) 2 [u,v]:=by
 refine ⟨rfl,fun _=>⟨_,rfl,Nat.lt_succ_self _,fun j x hx=>?_⟩⟩
 have hk:=Zy W (.cells #[u,v] t)
 match j with
 |0=>simp at hx;subst hx;exact (Zc hk 0).1
 |1 =>
  simp at hx;subst hx
  have h:=(Zc hk 1).1
  exact h
 |j+2=>simp at hx
theorem add_zero (a:Addr):a.add 0=a:=by unfold Addr.add;rw [if_pos rfl]
theorem Zoe (p:List ByteArray) {n:Nat} (h:p.length=n):(Zce p).take (n - 1)=Zce p:=List.take_of_length_le (by unfold Zce;rw [List.length_map,List.length_drop];omega)
theorem Zmn (p:List ByteArray) (i:Nat) (hi:i<2):(Zce p++[0,0])[i]?=some (Zdo p i):=by
 have h:i<(Zce p++[0,0]).length:=by simp;omega
 unfold Zdo
 rw [List.getD_eq_getElem?_getD,List.getElem?_eq_getElem h]
 rfl
theorem Zn9 {w:World} {b m c:Nat} {A:Option Addr} {p:List ByteArray} (h:w.ownsRow b 3 1 (.slice A (m+2) c) (m+2) ((Zce p++[0,0]).map (Value.int .i64))) :
  ∃ g,A=some ⟨g,0,none⟩∧w.cell? ⟨g,0,none⟩=some (.int .i64 (Zdo p 0))∧w.cell? ⟨g,1,none⟩=some (.int .i64 (Zdo p 1)):=by
 obtain ⟨g,cap,hv,_,hlt⟩:=h.form (by omega)
 have hA:A=some ⟨g,0,none⟩:=by injection hv
 subst hA
 have hc:=h.cells (g:=g) rfl
 refine ⟨g,rfl,?_,?_⟩
 ·exact hc 0 _ (by rw [List.getElem?_map,Zmn p 0 (by omega)];rfl)
 ·exact hc 1 _ (by rw [List.getElem?_map,Zmn p 1 (by omega)];rfl)
set_option maxHeartbeats 6400000 in
theorem ZfG (s:ByteArray) (w:World) (hz:s.size≤16777216) :
  Calls Tryz.prog 75 #[.string s] w fun e w'=>e=.returned (ZcW (Zhb s))∧Below w.heap.size w w':=by
 obtain ⟨i0,hi0,hz0,hz1,hz2⟩:=info_parts Zqe
 go_enter Tryz.func75,Tryz.ntmps75
 go_wp2_with fail
 have hk0:=Zy w (.cells #[.int .i64 0,.int .i64 0,.int .i64 0] 61)
 have hb0:Below w.heap.size w (w.alloc (.cells #[.int .i64 0,.int .i64 0,.int .i64 0] 61)):=bel
 generalize (w.alloc (.cells #[.int .i64 0,.int .i64 0,.int .i64 0] 61))=w0 at *
 refine (Zfy s w0 hz).mono ?_
 rintro e w1 (⟨hf,A,c,rfl,hb1⟩|⟨hf,A,c,rfl,ho,hb1⟩)
 ·have HL:=Lib.hid (Zgp hf)
  have hk1:=Za hk0 hb1
  have hbw1:Below w.heap.size w w1:=hb0.trans (hb1.mono hb0.size)
  obtain ⟨hx0,hx1,hx2,hxl⟩:=Za8 hk1
  obtain ⟨hf0,hf1,hf2⟩:=ZeN hk1
  go_wp2
  refine bodyPost_ret (v:=ZcW ((0,0,0),false)) (by simp [results,Tryz.results75,go_sem,ZcW, *]) rfl ?_
  rw [HL.out]
  exact ⟨rfl,ZhH hbw1 (Nat.le_refl _) _ _ _⟩
 ·have hzl:=(Zcz.1 hf).1
  have hcl:=ZhU s
  have hps:∀ x∈ZaP s,x.size≤600:=fun x hx=>Nat.le_trans (Zi1 hx) hzl
  have h24:=(Zcz.1 hf).2.2
  have HB:=Zk (fun h=>Zfi (s:=s) h)
  have HY:=Zk (fun h=>Zfa (s:=s) hf h)
  clear hf
  have hk1:=Za hk0 hb1
  have hbw1:Below w.heap.size w w1:=hb0.trans (hb1.mono hb0.size)
  obtain ⟨p,hp⟩:∃ p,ZaP s=p:=⟨_,rfl⟩
  rw [hp] at hcl hps h24 HB HY ho ⊢
  clear hp hk0 hb1
  obtain ⟨n,hn⟩:∃ n,p.length=n:=⟨_,rfl⟩
  have HN:=Lib.hid hn
  have HBL:=Zk (fun h=>Zgu (p:=p) h)
  rw [hn] at h24 ho HBL ⊢
  clear hn
  have hS:=ZkG ho (by omega) hps (by decide)
  have HCL:=Zk hcl
  have HPS:=Zk hps
  clear hcl hps ho
  obtain ⟨hx0,hx1,hx2,hxl⟩:=Za8 hk1
  obtain ⟨hf0,hf1,hf2⟩:=ZeN hk1
  by_cases hn3:1≤n∧n≤3
  ·have hin:inB (n:Int) 1 3=true:=by unfold inB;rw [decide_eq_true (by omega),decide_eq_true (by omega)];rfl
   obtain ⟨hl0,a0,rfl,hab0,hc0,hsb0⟩:=hS.at_ (k:=0) (by omega)
   rw [add_zero] at hc0
   go_wp2_with (go_at_call 95;refine (Zbc _ _ _ _).mono ?_;rw [hin];rintro e w' ⟨rfl,rfl⟩)
   have hj0:ZbC (p.take 1)=p[0]:=by
    rw [List.take_succ_eq_append_getElem hl0]
    exact Zjo _
   have HJ0:=Lib.hid hj0
   clear hc0 hj0
   go_loopw [6,7,8] (fun sv nv kv wr=>∃ (j k:Nat) (An:Option Addr) (cn:Nat),Hid (k=j+1)∧k≤n∧j≤k∧kv=.int .i64 (k:Int)∧sv=.string (ZbC (p.take k))∧nv=.slice An j cn∧wr.ownsRow w1.heap.size 3 1 (.slice An j cn) j (((Zce p).take j).map (Value.int .i64))∧Below w1.heap.size w1 wr) (fun _ _ kv _=>n - (intOf kv).toNat)
   case atStart =>
    refine ⟨0,1,some ⟨w1.heap.size,0,none⟩,0,rfl,by omega,by omega,rfl,by rw [HJ0.out],rfl,?_,bel⟩
    have h:=World.ownsRow_lit (w:=w1) (base:=w1.heap.size) (e:=3) (size:=1) #[] 0 (Nat.le_refl _) (by unfold maxLen;omega) (by simp)
    simpa using h
   case round =>
    obtain ⟨j,k,An,cn,HKJ,hk,hjk,rfl,rfl,rfl,hown,hb⟩:=hrel
    have hzr:=hb.size
    have HO:=Zk hown
    by_cases hlt:k<n
    ·obtain ⟨hl,a1,ha1,hab,hc1,hsb⟩:=(hS.below hb).at_ (k:=k) hlt
     have h1:a0=a1:=Option.some.inj ha1
     subst h1
     clear ha1
     have hp1:=HPS.out _ (List.getElem_mem hl)
     have HJ:=Lib.hid (Zlv hl (by have:=HKJ.out;omega))
     have HT:Hid ((Zce p).take (j+1)=(Zce p).take j++[l40 p[k]]):=by
      have e:=HKJ.out
      subst e
      exact ZmS hl
     have hjz:=ZiO HPS.out k
     rw [HN.out] at hjz
     obtain ⟨Q,hQ⟩:∃ Q,ZbC (p.take k)=Q:=⟨_,rfl⟩
     rw [hQ] at HJ hjz ⊢
     clear hQ
     obtain ⟨x,hx⟩:∃ x,p[k]=x:=⟨_,rfl⟩
     rw [hx] at hc1 hsb hp1 HJ HT
     clear hx
     have ov1:¬9223372036854775807<Q.size+(⟨#[32]⟩:ByteArray).size:=by rw [ZaM];omega
     have ov2:¬9223372036854775807<(Q++(⟨#[32]⟩:ByteArray)).size+x.size:=by rw [ByteArray.size_append,ZaM];omega
     have hone:∀ u∈[Value.int .i64 (l40 x)],u.oneCell'=true:=by intro u hu;simp at hu;subst hu;rfl
     have HONE:=Zk hone
     clear hone
     go_wp2_with (first|(go_at_call 123;refine (Zkc _ _ hsb).mono ?_;rintro e w2 ⟨rfl,hb2⟩;have hb2s:=hb2.size;have hb':=hb.trans (hb2.mono hzr);have hown':=Zx hown hb2)|(at_builtin;refine Zay _ rfl (.tmp 44) (.tmp 50) _ rfl w1.heap.size 3 i0 _ 1 8 Tryz.underlying37 hi0 hz0 hz1 hz2 rfl (by omega) (.slice An j cn) j (((Zce p).take j).map (Value.int .i64)) rfl (hown'.alloc _) (_+1) (some ⟨_,0,none⟩) 1 1 [Value.int .i64 (l40 x)] rfl (Zc7 _ _) HONE.out ?_ ?_ ?_ (j+1) (((Zce p).take j++[l40 x]).map (Value.int .i64)) rfl (by simp) ?_;(unfold maxLen;omega);omega;(simp;omega);intro A2 c2 w3 ho3 hb3))
     go_roundw
     case rel=>exact ⟨j+1,k+1,A2,c2,by have:=HKJ.out;unfold Hid;omega,by omega,by omega,by go_num,by rw [HJ.out],rfl,by rw [HT.out];exact ho3,(hb'.alloc (by omega) _).trans hb3⟩
     case measure=>simp [intOf];omega
    ·have hjn:k=n:=by omega
     subst hjn
     have hjx:j+1=k:=HKJ.out.symm
     have HE:Hid ((Zce p).take j=Zce p):=by
      have h:=Zoe p HN.out
      rw [← hjx] at h
      exact h
     have HF:Hid (ZbC (p.take k)=ZbC p):=by unfold Hid;rw [List.take_of_length_le (by rw [HN.out];exact Nat.le_refl _)]
     rw [HE.out] at hown
     rw [HF.out]
     clear HO HE HF
     have htwo:∀ u∈[Value.int .i64 0,Value.int .i64 0],u.oneCell'=true:=by intro u hu;simp at hu;subst hu;rfl
     have HTWO:=Zk htwo
     clear htwo
     have hNL:(Zce p).length=j:=by unfold Zce;rw [List.length_map,List.length_drop,HN.out];omega
     have HNL:=Lib.hid hNL
     clear hNL
     go_wp2_with (at_builtin;refine Zay _ rfl (.tmp 52) (.tmp 53) _ rfl w1.heap.size 3 i0 _ 1 8 Tryz.underlying37 hi0 hz0 hz1 hz2 rfl (by omega) (.slice An j cn) j ((Zce p).map (Value.int .i64)) rfl (hown.alloc _) (_+1) (some ⟨_,0,none⟩) 2 2 [Value.int .i64 0,Value.int .i64 0] rfl (Znh _ _ _) HTWO.out ?_ ?_ ?_ (j+2) ((Zce p++[0,0]).map (Value.int .i64)) rfl (by simp) ?_;(unfold maxLen;omega);omega;(simp;omega);intro A2 c2 w3 ho3 hb3)
     obtain ⟨g,hA2,hN0,hN1⟩:=Zn9 ho3
     subst hA2
     have hb3':Below w1.heap.size w1 w3:=(hb.alloc hzr _).trans hb3
     have hz3:=hb3'.size
     have hgl:g<w3.heap.size:=(ho3.lt g rfl).2
     have hbd0:=Zl9 p 0
     have hbd1:=Zl9 p 1
     have HH:=Zk (Zn4 p)
     have HX:=Zk (fun h=>Zo9 HCL.out h)
     have HG:=Zk (fun k h=>ZnV HCL.out (k:=k) h)
     obtain ⟨N0,h0⟩:∃ x,Zdo p 0=x:=⟨_,rfl⟩
     obtain ⟨N1,h1⟩:∃ x,Zdo p 1=x:=⟨_,rfl⟩
     rw [h0] at hN0 hbd0 HH HG
     rw [h1] at hN1 hbd1 HH HG
     clear h0 h1 ho3 hb3 hb hown hzr HTWO HPS
     go_loopw [9,10,11,12] (fun kv _ _ _ wr=>∃ q:Nat,1≤q∧q≤9∧kv=.int .i64 (q:Int)∧Hid (∀ i,1≤i→i<q→ZjV p i=false)∧Below w3.heap.size w3 wr) (fun kv _ _ _ _=>9 - (intOf kv).toNat)
     case atStart=>exact ⟨1,Nat.le_refl _,by omega,rfl,fun i h1 h2=>absurd h2 (by omega),Below.refl _ _⟩
     case round =>
      obtain ⟨q,hq1,hq9,rfl,HQ,hb⟩:=hrel
      have hzr:=hb.size
      have hbr1:=hb3'.trans (hb.mono hz3)
      have hkr:=Zbf hk1 hbr1 hxl
      have e0:wr.cell? ⟨g,0,none⟩=some (.int .i64 N0):=(hb.cell (p:=⟨g,0,none⟩) hgl).trans hN0
      have e1:wr.cell? ⟨g,1,none⟩=some (.int .i64 N1):=(hb.cell (p:=⟨g,1,none⟩) hgl).trans hN1
      by_cases hq8:q≤8
      ·have hg2:g<wr.heap.size:=by omega
       go_wp2_with fail
       go_region
       have kb:=ZaK (Zy wr (.cells #[.int .i64 (q:Int),.int .i64 N0,.int .i64 N1] 61))
       have hbx:Below wr.heap.size wr (wr.alloc (.cells #[.int .i64 (q:Int),.int .i64 N0,.int .i64 N1] 61)).drew:=bel
       generalize (wr.alloc (.cells #[.int .i64 (q:Int),.int .i64 N0,.int .i64 N1] 61)).drew=wx at *
       have hzx:=hbx.size
       obtain ⟨x0,x1,x2,xl⟩:=Za8 kb
       go_wp2_with fail
       clear x0 x1 x2 xl
       refine (Zkp q N0 N1 wx).mono ?_
       have HHq:=HH.out q
       have HGq:=Zk (fun h=>HG.out q h)
       generalize Zcx (q:Int) N0 N1=r at *
       obtain ⟨r1,r2⟩:=r
       rintro e wy ⟨rfl,hby⟩
       have hbr2:Below wr.heap.size wr wy:=hbx.trans (hby.mono hzx)
       have ky:=Za kb hby
       have hkr2:=Za hkr hbr2
       have hbwy:Below w.heap.size w wy:=hbw1.trans ((hbr1.trans (hbr2.mono hbr1.size)).mono hbw1.size)
       have hbw3:Below w3.heap.size w3 wy:=hb.trans (hbr2.mono hzr)
       have hzy:=hbr2.size
       clear hbx hby kb e0 e1 hg2
       simp only at HHq
       cases r2
       ·have HQ2:Hid (∀ i,1≤i→i<q+1→ZjV p i=false):=by
         intro i h1 h2
         by_cases hi:i<q
         ·exact HQ.out i h1 hi
         ·have:i=q:=by omega
          subst this
          rw [HHq];rfl
        clear HHq
        go_wp2
        go_roundw
        case rel=>exact ⟨q+1,by omega,by omega,by go_num,HQ2,hbw3⟩
        case measure=>simp [intOf];omega
       ·by_cases he:r1=ZbC p
        ·have hq:=HGq.out (by rw [HHq,decide_eq_true he];rfl)
         have HL:=Lib.hid (HY.out hq.1)
         have HV:=Lib.hid hq
         have hne:=ZaU he
         clear hq he HHq
         obtain ⟨y0,y1,y2,yl⟩:=Za8 ky
         obtain ⟨z0,z1,z2,zl⟩:=Za8 hkr2
         obtain ⟨f0,f1,f2⟩:=ZeN hkr2
         go_wp2
         refine bodyPost_ret (v:=.tuple #[.agg #[.int .i64 (q:Int),.int .i64 N0,.int .i64 N1],.bool true]) (by simp [results,Tryz.results75,go_sem, *]) rfl ?_
         rw [HL.out]
         obtain ⟨_,v1,v2,v3⟩:=HV.out
         refine ⟨?_,ZhH hbwy (Nat.le_refl _) _ _ _⟩
         unfold ZcW
         simp only [v1,v2,v3]
        ·have hne:=ZaN he
         have HQ2:Hid (∀ i,1≤i→i<q+1→ZjV p i=false):=by
          intro i h1 h2
          by_cases hi:i<q
          ·exact HQ.out i h1 hi
          ·have:i=q:=by omega
           subst this
           rw [HHq,decide_eq_false he];rfl
         clear HHq he
         go_wp2
         go_roundw
         case rel=>exact ⟨q+1,by omega,by omega,by go_num,HQ2,hbw3⟩
         case measure=>simp [intOf];omega
      ·have HL:=Lib.hid (HB.out (HX.out (fun i h1 h2=>HQ.out i h1 (by omega))))
       obtain ⟨z0,z1,z2,zl⟩:=Za8 hkr
       obtain ⟨f0,f1,f2⟩:=ZeN hkr
       have hbwr:Below w.heap.size w wr:=hbw1.trans (hbr1.mono hbw1.size)
       clear e0 e1
       go_wp2
       refine bodyPost_ret (v:=ZcW ((0,0,0),false)) (by simp [results,Tryz.results75,go_sem,ZcW, *]) rfl ?_
       rw [HL.out]
       exact ⟨rfl,ZhH hbwr (Nat.le_refl _) _ _ _⟩
  ·have hin:inB (n:Int) 1 3=false:=by
    cases hq:inB (n:Int) 1 3 with
    |false=>rfl
    |true=>exact absurd (by have:=(by simpa [inB] using hq:(1:Int)≤n∧(n:Int)≤3);omega) hn3
   have HL:=Lib.hid (HB.out (HBL.out hn3))
   go_wp2_with (go_at_call 95;refine (Zbc _ _ _ _).mono ?_;rw [hin];rintro e w' ⟨rfl,rfl⟩)
   refine bodyPost_ret (v:=ZcW ((0,0,0),false)) (by simp [results,Tryz.results75,go_sem,ZcW, *]) rfl ?_
   rw [HL.out]
   exact ⟨rfl,ZhH hbw1 (Nat.le_refl _) _ _ _⟩
end Go.Proofs.YtlimlolciekimaaGreatDoor
