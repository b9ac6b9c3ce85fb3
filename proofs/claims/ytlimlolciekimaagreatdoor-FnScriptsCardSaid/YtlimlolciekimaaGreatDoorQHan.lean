/- Contracts of the program's and the reference's functions (Txt5). -/
import Derived.Test.YtlimlolciekimaaGreatDoorRows
import Derived.Test.YtlimlolciekimaaGreatDoorQHam
import Derived.Test.YtlimlolciekimaaGreatDoorQHa
namespace Go.Proofs.YtlimlolciekimaaGreatDoor
set_option maxHeartbeats 1600000
open Go.ChangeShapes Go.WideShapes Go.ChangeAt Go.RowKit
set_option linter.unusedVariables false
set_option linter.unusedSimpArgs false
set_option maxRecDepth 10000
theorem parOk_fmt {p:List ByteArray} (hp:cleanP p):parOk p=((fmtRes (pK p) (pN p 1) (pN p 2)).2&&decide ((fmtRes (pK p) (pN p 1) (pN p 2)).1=joinB p)):=by
 unfold parOk fmtRes
 cases h:actOk (pK p) (pN p 1) (pN p 2) with
 |false=>simp
 |true =>
  simp only [Bool.true_and,if_true,Int.toNat_natCast]
  rw [decide_eq_decide]
  exact (actT_iff hp _ _ _).symm
theorem pN_out {p:List ByteArray} {i:Nat} (h:p.length≤i):pN p i=0:=by
 unfold pN
 rw [List.getD_eq_getElem?_getD,List.getElem?_eq_none h]
 exact uintV_nil
theorem pN_in {p:List ByteArray} {i:Nat} (h:i<p.length):pN p i=uintV p[i]:=by
 unfold pN
 rw [List.getD_eq_getElem?_getD,List.getElem?_eq_getElem h]
 rfl
theorem pK_in {p:List ByteArray} (h:0<p.length):pK p=kindTo 8 p[0]:=by
 unfold pK
 rw [List.getD_eq_getElem?_getD,List.getElem?_eq_getElem h]
 rfl
theorem parOk_badnum {p:List ByteArray} {i:Nat} (hi:i<p.length) (h1:1≤i) (h:uintOk p[i]=false):parOk p=false:=by
 cases hq:parOk p with
 |false=>rfl
 |true=>rw [parOk_num hq hi h1] at h;cases h
theorem blk2 {w:World} {g:Nat} {t:TypeId} {a b:Value} (h:w.heap[g]?=some (.cells #[a,b] t (0,0))) :
  w.cell? ⟨g,0,none⟩=some a∧w.cell? ⟨g,1,none⟩=some b∧w.frozen? ⟨g,0,none⟩=false∧w.frozen? ⟨g,1,none⟩=false∧g<w.heap.size :=
 ⟨(blk_cells h 0).1,(blk_cells h 1).1,(blk_cells h 0).2,(blk_cells h 1).2,blk_lt h⟩
theorem blk_oth {w:World} {g:Nat} {p:Addr} {o:Obj} (h:w.heap[g]?=some o) (hne:g≠p.block) (u:Value):(w.setCell p u).heap[g]?=some o:=(Below.heap_setCell _ _ _ _ hne).trans h
theorem kind_hit {q j:Nat} {x:ByteArray} (h:q=j+1) (he:wordT q=x):kindTo (j+1) x=q:=by
 subst h
 show (if wordT (j+1)=x then j+1 else kindTo j x)=_
 rw [if_pos he]
theorem kind_miss {q j:Nat} {x:ByteArray} (h:q=j+1) (he:¬wordT q=x):kindTo (j+1) x=kindTo j x:=by
 subst h
 show (if wordT (j+1)=x then j+1 else kindTo j x)=_
 rw [if_neg he]
theorem slice1 (g n c:Nat) (hn:1≤n) (hc:n≤c):∃ (A':Option Addr) (c':Nat),(2≤n→A'=some ⟨g,1,none⟩)∧∀ W:World,(Instr.slice 24 (.slice (some ⟨g,0,none⟩) n c) (some (.int .i64 1)) none none).run Tryz.prog W=.ok (.slice A' (n - 1) c') W:=by
 by_cases h1:c=1
 ·refine ⟨some ⟨g,0,none⟩,0,fun h=>by omega,fun W=>?_⟩
  have hn1:n=1:=by omega
  subst hn1
  subst h1
  simp [go_sem]
 ·refine ⟨some ⟨g,1,none⟩,c - 1,fun _=>rfl,fun W=>?_⟩
  have hni:(1:Int)≤(n:Int):=by omega
  have hci:¬(c=1):=h1
  simp [go_sem, *]
theorem i_words (k:Nat) (w:World) (h1:1≤k) (h8:k≤8):Calls Tryz.prog 62 #[.int .i64 (k:Int)] w fun e w'=>e=.returned (.tuple #[.string (wordT k),.int .i64 (wordN k:Int)])∧w=w':=by
 obtain rfl|rfl|rfl|rfl|rfl|rfl|rfl|rfl:k=1∨k=2∨k=3∨k=4∨k=5∨k=6∨k=7∨k=8:=by omega
 all_goals
  go_enter Tryz.func62,Tryz.ntmps62
  go_wp2
  go_ret2
  exact ⟨rfl,rfl⟩
set_option maxHeartbeats 6400000 in
theorem i_ParseAct (s:ByteArray) (w:World) (hE:Errs w) (hz:s.size≤16777216) :
  Calls Tryz.prog 25 #[.string s] w fun e w'=>e=.returned (actV (lineP s))∧Below w.heap.size w w':=by
 go_enter Tryz.func25,Tryz.ntmps25
 go_wp2_with fail
 have hk0:=blk_new w (.cells #[.int .i64 0,.int .i64 0,.int .i64 0] 61)
 have hb0:Below w.heap.size w (w.alloc (.cells #[.int .i64 0,.int .i64 0,.int .i64 0] 61)):=bel
 generalize (w.alloc (.cells #[.int .i64 0,.int .i64 0,.int .i64 0] 61))=w0 at *
 refine (i_SplitFields s w0 (hE.below hb0) hz).mono ?_
 rintro e w1 (⟨hf,rfl,hb1⟩|⟨hf,A,c,rfl,ho,hb1⟩)
 ·have HL:=Lib.hid (lineP_no hf)
  have hk1:=blk_next hk0 hb1
  have hbw1:Below w.heap.size w w1:=hb0.trans (hb1.mono hb0.size)
  obtain ⟨hx0,hx1,hx2,hxl⟩:=blk3 hk1
  obtain ⟨hf0,hf1,hf2⟩:=blk3z hk1
  go_wp2
  refine bodyPost_ret (v:=actV ((0,0,0),false)) (by simp [results,Tryz.results25,go_sem,actV, *]) rfl ?_
  rw [HL.out]
  exact ⟨rfl,bel3 hbw1 (Nat.le_refl _) _ _ _⟩
 ·have hzl:=(fldOk_iff.1 hf).1
  have hcl:=flds_clean s
  have hps:∀ x∈flds s,x.size≤600:=fun x hx=>Nat.le_trans (flds_size hx) hzl
  have h24:=(fldOk_iff.1 hf).2.2
  have HB:=hide (fun h=>lineP_bad (s:=s) h)
  have HY:=hide (fun h=>lineP_yes (s:=s) hf h)
  clear hf
  have hk1:=blk_next hk0 hb1
  have hbw1:Below w.heap.size w w1:=hb0.trans (hb1.mono hb0.size)
  obtain ⟨p,hp⟩:∃ p,flds s=p:=⟨_,rfl⟩
  rw [hp] at hcl hps h24 HB HY ho ⊢
  clear hp hk0 hb1
  obtain ⟨n,hn⟩:∃ n,p.length=n:=⟨_,rfl⟩
  have HN:=Lib.hid hn
  have HBL:=hide (fun h=>parOk_badlen (p:=p) h)
  rw [hn] at h24 ho HBL ⊢
  clear hn
  have hS:=strs_own ho (by omega) hps (by decide)
  have hcap:=(own_cap ho).1
  have HCL:=hide hcl
  have HPS:=hide hps
  obtain ⟨hx0,hx1,hx2,hxl⟩:=blk3 hk1
  obtain ⟨hf0,hf1,hf2⟩:=blk3z hk1
  by_cases hn1:1≤n
  ·obtain ⟨g,cap,hv,hgb,hgl⟩:=ho.form hn1
   have hA:A=some ⟨g,0,none⟩:=by injection hv
   subst hA
   clear hv hcl hps
   obtain ⟨hl0,a0,ha0,hab0,hc0,hsb0⟩:=hS.at_ (k:=0) (by omega)
   have h0:=Option.some.inj ha0
   subst h0
   clear ha0
   rw [add_zero] at hc0
   have HK:=Lib.hid (pK_in hl0)
   obtain ⟨x0,hx0e⟩:∃ x,p[0]=x:=⟨_,rfl⟩
   rw [hx0e] at hc0 hsb0 HK
   have HX0:=Lib.hid hx0e
   clear hx0e
   have hnz:((n:Int)==0)=false:=by rw [beq_eq_false_iff_ne];omega
   go_wp2_with fail
   have kn:=blk_alloc (blk_new w1 (.cells #[.int .i64 0,.int .i64 0] 3)) (.cells #[.int .i64 0,.int .i64 0,.int .i64 0] 61)
   have ka:=blk_new (w1.alloc (.cells #[.int .i64 0,.int .i64 0] 3)) (.cells #[.int .i64 0,.int .i64 0,.int .i64 0] 61)
   rw [show (w1.alloc (.cells #[.int .i64 0,.int .i64 0] 3)).heap.size=w1.heap.size+1 by simp] at ka
   have hb2:Below w1.heap.size w1 ((w1.alloc (.cells #[.int .i64 0,.int .i64 0] 3)).alloc (.cells #[.int .i64 0,.int .i64 0,.int .i64 0] 61)):=bel
   generalize ((w1.alloc (.cells #[.int .i64 0,.int .i64 0] 3)).alloc (.cells #[.int .i64 0,.int .i64 0,.int .i64 0] 61))=w2 at *
   obtain ⟨gn,hgn⟩:∃ x,x=w1.heap.size:=⟨_,rfl⟩
   have hgn1:w1.heap.size≤gn:=by omega
   have hgn2:gn≤w1.heap.size:=by omega
   try rw [← hgn] at ka
   try rw [← hgn] at kn
   try rw [← hgn]
   clear hgn
   obtain ⟨ga,hga⟩:∃ x,x=gn+1:=⟨_,rfl⟩
   have hga1:gn<ga:=by omega
   try rw [← hga] at ka
   try rw [← hga]
   clear hga hc0 hx0 hx1 hx2 hf0 hf1 hf2
   go_loopw [8,9,10] (fun kv _ _ wr=>∃ (q j:Nat),q≤9∧1≤q∧kv=.int .i64 (q:Int)∧Hid (q=j+1)∧wr.heap[gn]?=some (.cells #[.int .i64 0,.int .i64 0] 3 (0,0))∧wr.heap[ga]?=some (.cells #[.int .i64 (kindTo j x0:Nat),.int .i64 0,.int .i64 0] 61 (0,0))∧Below w1.heap.size w1 wr) (fun kv _ _ _=>9 - (intOf kv).toNat)
   case atStart=>exact ⟨1,0,by omega,by omega,rfl,rfl,kn,ka,hb2⟩
   case round =>
    clear kn ka hb2
    obtain ⟨q,j,hq9,hq1,rfl,HQ,kn,ka,hb⟩:=hrel
    have hzr:=hb.size
    by_cases hq8:q≤8
    ·obtain ⟨_,_,h0,_,hc0,_⟩:=(hS.below hb).at_ (k:=0) (by omega)
     have h0:=Option.some.inj h0
     subst h0
     rw [add_zero] at hc0
     obtain ⟨hj0,hj1,hj2,hjl⟩:=blk3 ka
     obtain ⟨hf0,hf1,hf2⟩:=blk3z ka
     rw [HX0.out] at hc0
     have HQ2:Hid (q+1=(j+1)+1):=by have:=HQ.out;unfold Hid;omega
     by_cases he:wordT q=x0
     ·have hne:=beq_toList_true he
      have HKT:Hid (kindTo (j+1) x0=q):=by
       have h:=HQ.out
       exact kind_hit h he
      clear he
      go_wp2_with (go_at_call 62;refine (i_words q _ hq1 hq8).mono ?_;rintro e w' ⟨rfl,rfl⟩)
      go_roundw
      case rel =>
       refine ⟨q+1,j+1,by omega,by omega,by go_num,HQ2,?_,?_,?_⟩
       ·exact blk_oth kn (show gn≠ga by omega) _
       ·rw [HKT.out];have h:=blk_set ka 0 (.int .i64 (q:Int));simpa using h
       ·exact hb.setCell (p:=⟨ga,0,none⟩) (show w1.heap.size≤ga by omega) _
      case measure=>simp [intOf];omega
     ·have hne:=beq_toList_false he
      have HKT:Hid (kindTo (j+1) x0=kindTo j x0):=by
       have h:=HQ.out
       exact kind_miss h he
      clear he
      go_wp2_with (go_at_call 62;refine (i_words q _ hq1 hq8).mono ?_;rintro e w' ⟨rfl,rfl⟩)
      go_roundw
      case rel=>exact ⟨q+1,j+1,by omega,by omega,by go_num,HQ2,kn,by rw [HKT.out];exact ka,hb⟩
      case measure=>simp [intOf];omega
    ·have hj8:j=8:=by have:=HQ.out;omega
     subst hj8
     rw [← HK.out] at ka
     clear HK HQ
     obtain ⟨A1,c1,hA1,hsl⟩:=slice1 g n c hn1 hcap
     obtain ⟨ad,had⟩:∃ x,x=(⟨g,1,none⟩:Addr):=⟨_,rfl⟩
     rw [← had] at hA1
     have HAD:=Lib.hid had
     clear had
     obtain ⟨m,hm⟩:∃ m,n - 1=m:=⟨_,rfl⟩
     rw [hm] at hsl
     have hm1:m+1≤n:=by omega
     have hm2:n≤m+1:=by omega
     clear hm
     go_wp2
     go_loopw [11,12,13,14,51] (fun _ _ _ _ iv wr=>∃ (i a b:Nat),i≤m∧i≤2∧iv=.int .i64 (i:Int)∧Hid (a=if 1≤i then pN p 1 else 0)∧Hid (b=if 2≤i then pN p 2 else 0)∧wr.heap[gn]?=some (.cells #[.int .i64 (a:Int),.int .i64 (b:Int)] 3 (0,0))∧wr.heap[ga]?=some (.cells #[.int .i64 (pK p:Nat),.int .i64 0,.int .i64 0] 61 (0,0))∧Below w1.heap.size w1 wr) (fun _ _ _ _ iv _=>m - (intOf iv).toNat)
     case atStart=>exact ⟨0,0,0,Nat.zero_le _,by omega,rfl,rfl,rfl,kn,ka,hb⟩
     case round =>
      clear kn ka hb hzr
      obtain ⟨i,a,b,him,hi2,rfl,HNA,HNB,kn,ka,hb⟩:=hrel
      have hzr:=hb.size
      by_cases hlt:i<m
      ·have h2:=hA1 (by omega)
       subst h2
       obtain ⟨hl,_,h0,_,hc1,hsb1⟩:=(hS.below hb).at_ (k:=i+1) (by omega)
       have h0:=Option.some.inj h0
       subst h0
       have ead:(⟨g,0,none⟩:Addr).add (i+1)=ad.add i:=by
        rw [HAD.out,show (⟨g,1,none⟩:Addr)=(⟨g,0,none⟩:Addr).add 1 from rfl,add_of_add,Nat.add_comm]
       rw [ead] at hc1
       have HPI:=Lib.hid (pN_in hl)
       have HBN:=hide (fun h=>parOk_badnum (p:=p) hl (by omega) h)
       obtain ⟨x,hx⟩:∃ x,p[i+1]=x:=⟨_,rfl⟩
       rw [hx] at hc1 hsb1 HPI HBN
       clear hx ead
       have hEr:=(hE.below hbw1).below hb
       have hu1:=uintV_le x
       go_wp2_with fail
       refine (i_ParseUint _ _ hsb1 hEr).mono ?_
       obtain ⟨ok,hok⟩:∃ ok,uintOk x=ok:=⟨_,rfl⟩
       rw [hok] at HBN ⊢
       clear hok
       rintro e w4 ⟨rfl,hb4⟩
       have hbr:=hb.trans (hb4.mono hzr)
       have kn4:=blk_below kn hb4 (blk_lt kn)
       have ka4:=blk_below ka hb4 (blk_lt ka)
       have hk4:=blk_below hk1 hbr hxl
       clear kn ka hc1 hEr hb4
       cases ok
       ·have HL:=Lib.hid (HB.out (HBN.out rfl))
        obtain ⟨z0,z1,z2,zl⟩:=blk3 hk4
        obtain ⟨f0,f1,f2⟩:=blk3z hk4
        have hbw4:Below w.heap.size w w4:=hbw1.trans (hbr.mono hbw1.size)
        go_wp2
        refine bodyPost_ret (v:=actV ((0,0,0),false)) (by simp [results,Tryz.results25,go_sem,actV, *]) rfl ?_
        rw [HL.out]
        exact ⟨rfl,bel3 hbw4 (Nat.le_refl _) _ _ _⟩
       ·by_cases hi1:i≤1
        ·obtain ⟨y0,y1,yf0,yf1,yl⟩:=blk2 kn4
         obtain rfl|rfl:i=0∨i=1:=by omega
         ·have kS:=blk_set kn4 0 (.int .i64 (uintV x:Int))
          simp at kS
          have kA:=blk_oth ka4 (show ga≠(⟨gn,0,none⟩:Addr).block by show ga≠gn;omega) (.int .i64 (uintV x:Int))
          have hB5:=hbr.setCell (p:=⟨gn,0,none⟩) hgn1 (.int .i64 (uintV x:Int))
          have hN1:Hid (uintV x=if 1≤1 then pN p 1 else 0):=by unfold Hid;rw [if_pos (Nat.le_refl 1)];exact HPI.out.symm
          have hN2:Hid (b=if 2≤1 then pN p 2 else 0):=HNB.out
          have H5:=hide (And.intro kS (And.intro kA hB5))
          clear kS kA hB5
          go_wp2
          go_roundw
          case rel=>exact ⟨1,uintV x,b,by omega,by omega,rfl,hN1,hN2,H5.out.1,H5.out.2.1,H5.out.2.2⟩
          case measure=>simp [intOf];omega
         ·have kS:=blk_set kn4 1 (.int .i64 (uintV x:Int))
          simp at kS
          have kA:=blk_oth ka4 (show ga≠(⟨gn,1,none⟩:Addr).block by show ga≠gn;omega) (.int .i64 (uintV x:Int))
          have hB5:=hbr.setCell (p:=⟨gn,1,none⟩) hgn1 (.int .i64 (uintV x:Int))
          have hN1:Hid (a=if 1≤2 then pN p 1 else 0):=HNA.out
          have hN2:Hid (uintV x=if 2≤2 then pN p 2 else 0):=by unfold Hid;rw [if_pos (Nat.le_refl 2)];exact HPI.out.symm
          have H5:=hide (And.intro kS (And.intro kA hB5))
          clear kS kA hB5
          go_wp2
          go_roundw
          case rel=>exact ⟨2,a,uintV x,by omega,by omega,rfl,hN1,hN2,H5.out.1,H5.out.2.1,H5.out.2.2⟩
          case measure=>simp [intOf];omega
        ·have hi2':i=2:=by omega
         have HL:=Lib.hid (HB.out (HBL.out (by omega)))
         obtain ⟨z0,z1,z2,zl⟩:=blk3 hk4
         obtain ⟨f0,f1,f2⟩:=blk3z hk4
         have hbw4:Below w.heap.size w w4:=hbw1.trans (hbr.mono hbw1.size)
         go_wp2
         refine bodyPost_ret (v:=actV ((0,0,0),false)) (by simp [results,Tryz.results25,go_sem,actV, *]) rfl ?_
         rw [HL.out]
         exact ⟨rfl,bel3 hbw4 (Nat.le_refl _) _ _ _⟩
      ·have hA:Hid (a=pN p 1):=by
        have h:=HNA.out
        have h2:=HN.out
        unfold Hid
        rw [h]
        split
        ·rfl
        ·exact (pN_out (by omega)).symm
       have hB:Hid (b=pN p 2):=by
        have h:=HNB.out
        have h2:=HN.out
        unfold Hid
        rw [h]
        split
        ·rfl
        ·exact (pN_out (by omega)).symm
       obtain ⟨y0,y1,yf0,yf1,yl⟩:=blk2 kn
       obtain ⟨v0,v1,v2,vl⟩:=blk3 ka
       obtain ⟨vf0,vf1,vf2⟩:=blk3z ka
       go_wp2_with fail
       go_region
       have kS:=blk_drew (blk_set (blk_set ka 1 (.int .i64 (a:Int))) 2 (.int .i64 (b:Int)))
       simp at kS
       have hB5:Below w1.heap.size w1 ((wr.setCell ⟨ga,1,none⟩ (.int .i64 (a:Int))).setCell ⟨ga,2,none⟩ (.int .i64 (b:Int))).drew :=
        Below.drew ((hb.setCell (p:=⟨ga,1,none⟩) (show w1.heap.size≤ga by omega) _).setCell (p:=⟨ga,2,none⟩) (show w1.heap.size≤ga by omega) _)
       generalize ((wr.setCell ⟨ga,1,none⟩ (.int .i64 (a:Int))).setCell ⟨ga,2,none⟩ (.int .i64 (b:Int))).drew=w5 at *
       clear kn ka hb hzr y0 y1 yf0 yf1 yl v0 v1 v2 vl vf0 vf1 vf2 HNA HNB
       have hz5:=hB5.size
       obtain ⟨v0,v1,v2,vl⟩:=blk3 kS
       have hT5:=((hE.below hbw1).below hB5).tab
       go_wp2_with fail
       refine (i_FormatAct (pK p) a b w5 hT5).mono ?_
       clear v0 v1 v2 vl hT5
       have HPF:=Lib.hid (parOk_fmt HCL.out)
       have h1:=HPF.out
       rw [← hA.out,← hB.out] at h1
       clear HPF
       obtain ⟨r,hr⟩:∃ r,fmtRes (pK p) (a:Int) (b:Int)=r:=⟨_,rfl⟩
       rw [hr] at h1 ⊢
       clear hr
       obtain ⟨r1,r2⟩:=r
       simp only at h1
       rintro e w6 ⟨rfl,hb6⟩
       have hB6:=hB5.trans (hb6.mono hz5)
       have kA6:=blk_below kS hb6 (blk_lt kS)
       have hk6:=blk_below hk1 hB6 hxl
       have hz6:=hB6.size
       have hbw6:Below w.heap.size w w6:=hbw1.trans (hB6.mono hbw1.size)
       clear kS hb6 hB5
       cases r2
       ·have HL:=Lib.hid (HB.out (by rw [h1];rfl))
        clear h1
        obtain ⟨z0,z1,z2,zl⟩:=blk3 hk6
        obtain ⟨f0,f1,f2⟩:=blk3z hk6
        go_wp2
        refine bodyPost_ret (v:=actV ((0,0,0),false)) (by simp [results,Tryz.results25,go_sem,actV, *]) rfl ?_
        rw [HL.out]
        exact ⟨rfl,bel3 hbw6 (Nat.le_refl _) _ _ _⟩
       ·have hrow:=own_below ho (hB6:Below w1.heap.size w1 w6)
        have hJ:=Tryz.strings_Join g 0 c p ⟨#[32]⟩ w6 (fun j x hx=>by
          have hc:=hrow.cells (g:=g) rfl j (.string x) (by rw [List.getElem?_map,hx];rfl)
          have e:(⟨g,0,none⟩:Addr).add j=⟨g,0+j,none⟩:=by
           unfold Addr.add
           split
           ·rename_i h;subst h;rfl
           ·rfl
          rw [e] at hc
          exact hc) (Nat.lt_of_lt_of_le hgl hz6) (by rw [HN.out];omega) (by rw [HN.out];exact hcap) (by
          have h:=joinB_size HPS.out
          rw [HN.out] at h
          have h2:(Lib.join (p.map (·.data.toList)) [32]).length=(joinB p).size:=by
           have:(joinB p).size=(joinB p).data.toList.length:=by rw [Array.length_toList];rfl
           rw [this];rfl
          show (Lib.join (p.map (·.data.toList)) [32]).length≤_
          rw [h2];omega)
        rw [HN.out] at hJ
        have HJ:=hide (show Calls Tryz.prog 65 #[.slice (some ⟨g,0,none⟩) n c,.string ⟨#[32]⟩] w6 fun e w'=>e=.returned (.string (joinB p))∧Below w6.heap.size w6 w' from hJ)
        clear hJ hrow
        go_wp2_with fail
        refine HJ.out.mono ?_
        clear HJ
        rintro e w7 ⟨rfl,hb7⟩
        have kA7:=blk_below kA6 hb7 (blk_lt kA6)
        have hk7:=blk_below hk6 hb7 (blk_lt hk6)
        have hbw7:Below w.heap.size w w7:=hbw6.trans (hb7.mono hbw6.size)
        obtain ⟨z0,z1,z2,zl⟩:=blk3 hk7
        obtain ⟨f0,f1,f2⟩:=blk3z hk7
        by_cases he:r1=joinB p
        ·have HL:=Lib.hid (HY.out (by rw [h1,decide_eq_true he];rfl))
         have hne:=beq_toList_true he
         obtain ⟨v0,v1,v2,vl⟩:=blk3 kA7
         clear h1 he
         go_wp2
         refine bodyPost_ret (v:=.tuple #[.agg #[.int .i64 (pK p:Int),.int .i64 (a:Int),.int .i64 (b:Int)],.bool true]) (by simp [results,Tryz.results25,go_sem, *]) rfl ?_
         rw [HL.out]
         refine ⟨?_,bel3 hbw7 (Nat.le_refl _) _ _ _⟩
         unfold actV
         simp only [hA.out,hB.out]
        ·have HL:=Lib.hid (HB.out (by rw [h1,decide_eq_false he];rfl))
         have hne:=beq_toList_false he
         clear h1 he
         go_wp2
         refine bodyPost_ret (v:=actV ((0,0,0),false)) (by simp [results,Tryz.results25,go_sem,actV, *]) rfl ?_
         rw [HL.out]
         exact ⟨rfl,bel3 hbw7 (Nat.le_refl _) _ _ _⟩
  ·have HL:=Lib.hid (HB.out (HBL.out (by omega)))
   have hn0:n=0:=by omega
   subst hn0
   go_wp2
   refine bodyPost_ret (v:=actV ((0,0,0),false)) (by simp [results,Tryz.results25,go_sem,actV, *]) rfl ?_
   rw [HL.out]
   exact ⟨rfl,bel3 hbw1 (Nat.le_refl _) _ _ _⟩
end Go.Proofs.YtlimlolciekimaaGreatDoor
