/- Contracts of the program's and the reference's functions (Box3, Box4). -/
import Derived.Deep.RegionHeld3
import Derived.Test.YtlimlolciekimaaGreatDoorRows
import Derived.Test.YtlimlolciekimaaGreatDoorQRc
namespace Go.Proofs.YtlimlolciekimaaGreatDoor
set_option maxHeartbeats 1600000
open Go.ChangeShapes Go.WideShapes Go.ChangeAt Go.RowKit
set_option linter.unusedVariables false
set_option maxRecDepth 10000
theorem Zi7 (d f:Int) (B:Nat) (A:Option Addr) (n c:Nat) (ss:List ByteArray) (F L T:Int) (w:World) (hS:ZaJ w B A n ss) (hB:B≤w.heap.size) :
  Calls Tryz.prog 202 #[.agg #[.int .i64 d,.int .i64 f,.slice A n c],.agg #[.int .i64 F,.int .i64 L,.int .i64 T]] w (ZaT w.heap.size d f (Zax 102 d f ss F L T).1 (Zax 102 d f ss F L T).2 w):=by
 have hn:=hS.nb
 have hl:=hS.len
 have hS2:=((hS.alloc hB (.cells #[.int .i64 d,.int .i64 f,.slice A n c] 26)).alloc (by simp;omega) (.cells #[.int .i64 F,.int .i64 L,.int .i64 T] 165)).alloc (by simp;omega) (.cells #[.int .i64 0,.int .i64 0,.slice none 0 0] 26)
 have HL:=Lib.hid hl
 cases hh:Zcb d f ss n F L
 ·have HP:=Lib.hid (ZgU (c:=102) (at_:=T) (show Zcb d f ss ss.length F L=false by rw [hl];exact hh))
  clear hl
  go_enter Tryz.func202,Tryz.ntmps202
  go_wp2_with (first|(go_at_call 181;refine (ZaZ _ _ B _ _ _ ss _ hS2 (by simp;omega)).mono ?_;rintro e w1 ⟨A1,c1,rfl,ho1,hb1⟩;obtain ⟨hcb,hfb⟩:=Zw hb1;obtain ⟨qea,qfa,qga,qha,qia,qja⟩:=zs3 (show w.heap.size+1+1<w1.heap.size by have hzz:=hb1.size;(try simp at hzz);omega);have hS3:=hS2.below (hb1.mono (by simp;omega)))|(go_at_call 246;refine (ZeK _ _ B _ _ _ ss _ _ _ _ (hS3.alloc (by omega) _) (by simp;omega)).mono ?_;rw [hh];rintro e w2 ⟨rfl,hb2⟩;obtain ⟨hcb2,hfb2⟩:=Zw hb2;obtain ⟨qaa,qba,qca,qda,qka,qla⟩:=zs3 (show w.heap.size+1+1<w2.heap.size by have hzz:=hb2.size;(try simp at hzz);omega);(have hw1:w1.heap.size<w2.heap.size:=(by have hq:=hb2.size;simp at hq;omega))))
  refine bodyPost_ret (v:=.tuple #[.agg #[.int .i64 d,.int .i64 f,.slice A1 ss.length c1],.bool false]) (by simp [results,Tryz.results202,go_sem, *]) rfl ?_
  rw [HP.out]
  exact ⟨A1,c1,rfl,ZaD ho1 upr (by first|exact Nat.le_refl _|(simp;done)|omega|(simp;omega)|exact (‹_∧_∧Below _ _ _›).2.2.size),bel⟩
 ·obtain ⟨hF0,hFL,hLn⟩:=Zeb hh
  obtain ⟨F,rfl⟩:=Int.eq_ofNat_of_zero_le hF0
  obtain ⟨L,rfl⟩:=Int.eq_ofNat_of_zero_le (show 0≤L by omega)
  have hFL':F≤L:=by omega
  have hLn':L<n:=by omega
  have HH:=Lib.hid (show Zcb d f ss ss.length F L=true by rw [hl];exact hh)
  clear hl hF0 hFL hLn
  go_enter Tryz.func202,Tryz.ntmps202
  go_wp2_with (first|(go_at_call 181;refine (ZaZ _ _ B _ _ _ ss _ hS2 (by simp;omega)).mono ?_;rintro e w1 ⟨A1,c1,rfl,ho1,hb1⟩;obtain ⟨hcb,hfb⟩:=Zw hb1;obtain ⟨qea,qfa,qga,qha,qia,qja⟩:=zs3 (show w.heap.size+1+1<w1.heap.size by have hzz:=hb1.size;(try simp at hzz);omega);have hS3:=hS2.below (hb1.mono (by simp;omega));(have hnl:0<ss.length:=(by have:=HL.out;omega));obtain ⟨g,cap,hv,hbg,hglt⟩:=ho1.form hnl;(have hA:A1=some ⟨g,0,none⟩:=(by injection hv));subst hA;clear hv)|(go_at_call 246;refine (ZeK _ _ B _ _ _ ss _ _ _ _ (hS3.alloc (by omega) _) (by simp;omega)).mono ?_;rw [hh];rintro e w2 ⟨rfl,hb2⟩;obtain ⟨hcb2,hfb2⟩:=Zw hb2;obtain ⟨qaa,qba,qca,qda,qka,qla⟩:=zs3 (show w.heap.size+1+1<w2.heap.size by have hzz:=hb2.size;(try simp at hzz);omega);(have hw1:w1.heap.size<w2.heap.size:=(by have hq:=hb2.size;simp at hq;omega))))
  have hbg':w.heap.size+3≤g:=by simp at hbg;omega
  have ho2:=Zx (ho1.alloc (.cells #[.int .i64 d,.int .i64 f,.slice (some ⟨g,0,none⟩) ss.length c1] 26)) hb2
  have hko:w2.heap[w1.heap.size]?=some (.cells #[.int .i64 d,.int .i64 f,.slice (some ⟨g,0,none⟩) ss.length c1] 26):=Za (Zy w1 (.cells #[.int .i64 d,.int .i64 f,.slice (some ⟨g,0,none⟩) ss.length c1] 26)) hb2
  have hb3:Below w.heap.size w w2:=bel
  have hS5:ZaJ w2 B (A) n ss:=(hS3.alloc (by omega) (.cells #[.int .i64 d,.int .i64 f,.slice (some ⟨g,0,none⟩) ss.length c1] 26)).below (hb2.mono (by simp;omega))
  have hwg:w.heap.size≤g:=by omega
  have hBg:B≤g:=by omega
  have qsa:w.heap.size+3≤g:=(by have hzz:=hbg';(try simp at hzz);omega);have qma:g≠w.heap.size:=(by have hzz:=hbg';(try simp at hzz);omega);have qpa:=Ne.symm qma;have qna:g≠w.heap.size+1:=(by have hzz:=hbg';(try simp at hzz);omega);have qqa:=Ne.symm qna;have qoa:g≠w.heap.size+1+1:=(by have hzz:=hbg';(try simp at hzz);omega);have qra:=Ne.symm qoa
  go_loopw [7] (fun kk wr=>∃ K:Nat,F≤K∧K≤L+1∧kk=.int .i64 K∧Hid (ZcO 102 T ss F (K - F)=true)∧wr.ownsRow (w.heap.size+1+1+1) 9 1 (.slice (some ⟨g,0,none⟩) ss.length c1) ss.length ((ZbW T ss F (K - F)).map Value.string)∧w2.grownBy wr (some g)) (fun kk _=>L+1 - (intOf kk).toNat)
  case atStart=>exact ⟨F,Nat.le_refl _,by omega,rfl,by rw [Nat.sub_self];exact Zfe _ _ _ _,by rw [Nat.sub_self,ZeB];first|exact ho2|exact ZaD ho2 (Zb3.refl _ _) (by simp),World.grownBy.refl _ _⟩
  case round =>
   obtain ⟨K,hFK,hKL,rfl,HA,hown,hg⟩:=hrel
   have hbr:Below w.heap.size w wr:=Zdx hb3 hg hwg
   have hSr:=hS5.grown hg hBg (by omega)
   have hzr:w2.heap.size≤wr.heap.size:=hg.size
   obtain ⟨hx0,hx1,hx2,hxl⟩:=Za8 ((hg.block w1.heap.size hw1 (by intro e;injection e;omega)).trans hko)
   have hcb3:=(Zg0 hg).1
   have hfb3:=(Zg0 hg).2
   have hz0:w.heap.size<wr.heap.size:=by omega
   have hz1:w.heap.size+1<wr.heap.size:=by omega
   have hz2:w.heap.size+1+1<wr.heap.size:=by omega
   have hgr:g<wr.heap.size:=by omega
   by_cases hlt:K≤L
   ·obtain ⟨hKs,ad,hAad,hab,hx,hsz⟩:=hSr.at_ (k:=K) (by omega)
    subst hAad
    have hKn:K<n:=by omega
    have hKl:K<ss.length:=hKs
    have hq:∀ W:World,Calls Tryz.prog 247 #[.string ss[K],.int .i64 T] W fun e w'=>e=.returned (.bool (Zaj 102 ss[K] T))∧∃ m,w'=W.drewN m:=fun W=>ZjU _ _ W hsz
    cases hcc:Zaj 102 ss[K] T
    ·rw [hcc] at hq
     have HQ:=Zk hq
     clear hq
     have HP:=Lib.hid (Ze2 (d:=d) (f:=f) (L:=L) (ZeA (m:=L+1) hFK hKs (by omega) hcc))
     clear hcc
     go_wp2
     go_quiet ((go_at_call 247;first|exact Zdk (Ze HQ _)|exact ZcL (Ze HQ _)))
     go_wp2_with (go_at_call 181;refine (ZaZ _ _ B _ _ _ ss _ (hSr.drewN _) (by simp;omega)).mono ?_;rintro e w4 ⟨A4,c4,rfl,ho4,hb4'⟩;(have hb4:Below wr.heap.size wr w4:=⟨hb4'.os,hb4'.tape,hb4'.output,hb4'.size,hb4'.block⟩);clear hb4';obtain ⟨hcb4,hfb4⟩:=Zw hb4;obtain ⟨qta,qua,qva,qwa,qxa,qya⟩:=zs3 (show w.heap.size+1+1<w4.heap.size by have hzz:=hb4.size;(try simp at hzz);omega))
     refine bodyPost_ret (v:=.tuple #[.agg #[.int .i64 d,.int .i64 f,.slice A4 ss.length c4],.bool false]) (by simp [results,Tryz.results202,go_sem, *]) rfl ?_
     rw [HP.out]
     exact ⟨A4,c4,rfl,ZaD ho4 upr (by first|exact Nat.le_refl _|(simp;done)|omega|(simp;omega)|exact (‹_∧_∧Below _ _ _›).2.2.size),bel⟩
    ·rw [hcc] at hq
     have HQ:=Zk hq
     clear hq
     obtain ⟨L2,K2,hT,hKL2,hL2⟩:=ZcH hcc
     have hq2:∀ W:World,Calls Tryz.prog 245 #[.string ss[K],.int .i64 T] W fun e w'=>e=.returned (.string (ZbM ss[K] T))∧∃ m,w'=W.drewN m:=fun W=>by rw [hT];exact ZiX _ L2 K2 W hsz hKL2 hL2
     have HQ2:=Zk hq2
     clear hq2 hT hKL2 hL2
     have HA2:=Lib.hid (ZeJ hFK hKs HA.out hcc)
     have HFS:=Lib.hid (ZdZ T ss F K hFK hKs)
     clear hcc
     obtain ⟨u1,hc1⟩:=ZdP hown (j:=K) hKl
     have hf1:=hown.frozenAt K
     go_wp2
     go_quiet ((go_at_call 247;first|exact Zdk (Ze HQ _)|exact ZcL (Ze HQ _)))
     go_wp2
     go_region_with (first|(go_at_call 245;refine (Ze HQ2 _).mono ?_;rintro e w' ⟨rfl,m,rfl⟩))
     all_goals (
      go_wp2
      go_roundw
      case rel =>
       have hst:=hown.stored K (.string (ZbM ss[K] T))
       have ho5:=hst.1
       rw [Zfm,HFS.out] at ho5
       have hg5:=ZbT hg hst.2
       exact ⟨K+1,by omega,by omega,by go_num,HA2.out,by first|exact ho5|exact ho5.drewN _,by first|exact hg5|exact ZeF hg5 _⟩
      case measure=>simp [intOf];omega)
   ·have hKe:K=L+1:=by omega
    subst hKe
    have HP:=Lib.hid (Zex HH.out HA.out)
    have HFL:=Lib.hid (Zcj T ss F (L+1 - F))
    go_wp2
    refine bodyPost_ret (v:=.tuple #[.agg #[.int .i64 d,.int .i64 f,.slice (some ⟨g,0,none⟩) ss.length c1],.bool true]) (by simp [results,Tryz.results202,go_sem, *]) rfl ?_
    rw [HP.out]
    unfold ZaT
    dsimp only
    rw [HFL.out]
    exact ⟨_,c1,rfl,ZaD hown upr (by first|exact Nat.le_refl _|(simp;done)|omega|(simp;omega)|exact (‹_∧_∧Below _ _ _›).2.2.size),bel⟩
theorem Zkz {c:UInt8} {at_:Int} {ss:List ByteArray} {F j i:Nat} (h:ZcO c at_ ss F j=true) (hi:i<ss.length) (h1:F≤i) (h2:i<F+j):Zaj c ss[i] at_=true:=by
 unfold ZcO at h
 rw [List.all_eq_true] at h
 refine h _ ?_
 rw [List.mem_take_iff_getElem]
 exact ⟨i - F,by rw [List.length_drop];omega,by simp [show F+(i - F)=i by omega]⟩
theorem Zln {c:UInt8} {at_:Int} {ss:List ByteArray} {F j:Nat} (hs:∀ s∈ss,s.size≤16777216) (h:ZcO c at_ ss F j=true):∀ x∈ZbW at_ ss F j,x.size≤16777216:=by
 intro x hx
 obtain ⟨i,hi,rfl⟩:=List.mem_iff_getElem.1 hx
 have hi':i<ss.length:=by rw [Zcj] at hi;exact hi
 have he:(ZbW at_ ss F j)[i]=if F≤i∧i<F+j then ZbM ss[i] at_ else ss[i]:=by simp [ZbW]
 rw [he]
 split
 ·rename_i hc
  rw [Zle (hs _ (List.getElem_mem hi')) (Zkz h hi' hc.1 hc.2)]
  exact hs _ (List.getElem_mem hi')
 ·exact hs _ (List.getElem_mem hi')
def Zdq (d f:Int) (ss:List ByteArray) (F L T:Int):Bool:=Zcb d f ss ss.length F L&&ZcO 100 T ss F.toNat (L.toNat+1 - F.toNat)
theorem Znb {d f:Int} {ss:List ByteArray} {F L T:Int} (h:Zdq d f ss F L T=false):Zax 100 d f ss F L T=(ss,false):=by
 unfold Zax;rw [if_neg];intro hh;unfold Zdq at h;rw [hh.1,hh.2] at h;cases h
theorem Zlp {d f:Int} {ss:List ByteArray} {F L T:Int} (h:Zdq d f ss F L T=true):Zcb d f ss ss.length F L=true∧ZcO 100 T ss F.toNat (L.toNat+1 - F.toNat)=true:=by
 unfold Zdq at h;simpa using h
theorem Zkn (d f:Int) (B:Nat) (A:Option Addr) (n c:Nat) (ss:List ByteArray) (F L T:Int) (w:World) (hS:ZaJ w B A n ss) (hB:B≤w.heap.size) :
  Calls Tryz.prog 244 #[.agg #[.int .i64 d,.int .i64 f,.slice A n c],.agg #[.int .i64 F,.int .i64 L,.int .i64 T]] w fun e w'=>e=.returned (.bool (Zdq d f ss F L T))∧Below w.heap.size w w':=by
 have hn:=hS.nb
 have hl:=hS.len
 have hS2:=((hS.alloc hB (.cells #[.int .i64 d,.int .i64 f,.slice A n c] 26)).alloc (by simp;omega) (.cells #[.int .i64 F,.int .i64 L,.int .i64 T] 165))
 have HL:=Lib.hid hl
 cases hh:Zcb d f ss n F L
 ·have HP:=Lib.hid (show Zdq d f ss F L T=false by unfold Zdq;rw [hl,hh];rfl)
  clear hl
  go_enter Tryz.func244,Tryz.ntmps244
  go_wp2_with (first|(go_at_call 246;refine (ZeK _ _ B _ _ _ ss _ _ _ _ hS2 (by simp;omega)).mono ?_;rw [hh];rintro e w2 ⟨rfl,hb2⟩;obtain ⟨hcb2,hfb2⟩:=Zw hb2;obtain ⟨qaa,qba,qca,qda⟩:=zs2 (show w.heap.size+1<w2.heap.size by have hzz:=hb2.size;(try simp at hzz);omega)))
  go_ret
  exact ⟨Zo HP.out.symm,bel⟩
 ·obtain ⟨hF0,hFL,hLn⟩:=Zeb hh
  obtain ⟨F,rfl⟩:=Int.eq_ofNat_of_zero_le hF0
  obtain ⟨L,rfl⟩:=Int.eq_ofNat_of_zero_le (show 0≤L by omega)
  have hFL':F≤L:=by omega
  have hLn':L<n:=by omega
  have HH:=Lib.hid (show Zcb d f ss ss.length F L=true by rw [hl];exact hh)
  clear hl hF0 hFL hLn
  go_enter Tryz.func244,Tryz.ntmps244
  go_wp2_with (first|(go_at_call 246;refine (ZeK _ _ B _ _ _ ss _ _ _ _ hS2 (by simp;omega)).mono ?_;rw [hh];rintro e w2 ⟨rfl,hb2⟩;obtain ⟨hcb2,hfb2⟩:=Zw hb2;obtain ⟨qaa,qba,qca,qda⟩:=zs2 (show w.heap.size+1<w2.heap.size by have hzz:=hb2.size;(try simp at hzz);omega)))
  have hS5:ZaJ w2 B A n ss:=hS2.below (hb2.mono (by simp;omega))
  have hb3:Below w.heap.size w w2:=bel
  have hBw:B≤w2.heap.size:=by omega
  go_loopw [5] (fun kk wr=>∃ K m:Nat,F≤K∧K≤L+1∧kk=.int .i64 K∧Hid (ZcO 100 T ss F (K - F)=true)∧wr=w2.drewN m) (fun kk _=>L+1 - (intOf kk).toNat)
  case atStart=>exact ⟨F,0,Nat.le_refl _,by omega,rfl,by rw [Nat.sub_self];exact Zfe _ _ _ _,rfl⟩
  case round =>
   obtain ⟨K,m,hFK,hKL,rfl,HA,rfl⟩:=hrel
   by_cases hlt:K≤L
   ·obtain ⟨hKs,ad,hAad,hab,hx,hsz⟩:=hS5.at_ (k:=K) (by omega)
    subst hAad
    have hKn:K<n:=by omega
    have hq:∀ W:World,Calls Tryz.prog 276 #[.string ss[K],.int .i64 T] W fun e w'=>e=.returned (.bool (Zaj 100 ss[K] T))∧∃ m,w'=W.drewN m:=fun W=>Zlh _ _ W hsz
    cases hcc:Zaj 100 ss[K] T
    ·rw [hcc] at hq
     have HQ:=Zk hq
     clear hq
     have HP:=Lib.hid (show Zdq d f ss F L T=false by unfold Zdq;simp only [Int.toNat_natCast];rw [ZeA (m:=L+1) hFK hKs (by omega) hcc];simp)
     clear hcc
     go_wp2
     go_quiet ((go_at_call 276;first|exact Zdk (Ze HQ _)|exact ZcL (Ze HQ _)))
     go_wp2
     go_ret
     exact ⟨Zo HP.out.symm,bel⟩
    ·rw [hcc] at hq
     have HQ:=Zk hq
     clear hq
     have HA2:=Lib.hid (ZeJ hFK hKs HA.out hcc)
     clear hcc
     go_wp2
     go_quiet ((go_at_call 276;first|exact Zdk (Ze HQ _)|exact ZcL (Ze HQ _)))
     go_wp2
     go_roundw
     case rel=>exact ⟨K+1,_,by omega,by omega,by go_num,HA2.out,by first|rfl|exact World.drewN_drewN _ _ _⟩
     case measure=>simp [intOf];omega
   ·have hKe:K=L+1:=by omega
    subst hKe
    have HP:=Lib.hid (show Zdq d f ss F L T=true by unfold Zdq;simp only [Int.toNat_natCast];rw [HH.out,HA.out];rfl)
    go_wp2
    go_ret
    exact ⟨Zo HP.out.symm,bel⟩
theorem Zj6 (d f:Int) (B:Nat) (A:Option Addr) (n c:Nat) (ss:List ByteArray) (F L T:Int) (w:World) (hS:ZaJ w B A n ss) (hB:B≤w.heap.size) :
  Calls Tryz.prog 201 #[.agg #[.int .i64 d,.int .i64 f,.slice A n c],.agg #[.int .i64 F,.int .i64 L,.int .i64 T]] w (ZaT w.heap.size d f (Zax 100 d f ss F L T).1 (Zax 100 d f ss F L T).2 w):=by
 have hn:=hS.nb
 have hl:=hS.len
 have hS2:=((hS.alloc hB (.cells #[.int .i64 d,.int .i64 f,.slice A n c] 26)).alloc (by simp;omega) (.cells #[.int .i64 F,.int .i64 L,.int .i64 T] 165)).alloc (by simp;omega) (.cells #[.int .i64 0,.int .i64 0,.slice none 0 0] 26)
 have HL:=Lib.hid hl
 cases hh:Zdq d f ss F L T
 ·have HP:=Lib.hid (Znb hh)
  clear hl
  go_enter Tryz.func201,Tryz.ntmps201
  go_wp2_with (first|(go_at_call 181;refine (ZaZ _ _ B _ _ _ ss _ hS2 (by simp;omega)).mono ?_;rintro e w1 ⟨A1,c1,rfl,ho1,hb1⟩;obtain ⟨hcb,hfb⟩:=Zw hb1;obtain ⟨qea,qfa,qga,qha,qia,qja⟩:=zs3 (show w.heap.size+1+1<w1.heap.size by have hzz:=hb1.size;(try simp at hzz);omega);have hS3:=hS2.below (hb1.mono (by simp;omega)))|(go_at_call 244;refine (Zkn _ _ B _ _ _ ss _ _ _ _ (hS3.alloc (by omega) _) (by simp;omega)).mono ?_;rw [hh];rintro e w2 ⟨rfl,hb2⟩;obtain ⟨hcb2,hfb2⟩:=Zw hb2;obtain ⟨qaa,qba,qca,qda,qka,qla⟩:=zs3 (show w.heap.size+1+1<w2.heap.size by have hzz:=hb2.size;(try simp at hzz);omega);(have hw1:w1.heap.size<w2.heap.size:=(by have hq:=hb2.size;simp at hq;omega))))
  refine bodyPost_ret (v:=.tuple #[.agg #[.int .i64 d,.int .i64 f,.slice A1 ss.length c1],.bool false]) (by simp [results,Tryz.results201,go_sem, *]) rfl ?_
  rw [HP.out]
  exact ⟨A1,c1,rfl,ZaD ho1 upr (by first|exact Nat.le_refl _|(simp;done)|omega|(simp;omega)|exact (‹_∧_∧Below _ _ _›).2.2.size),bel⟩
 ·obtain ⟨hbo,hall⟩:=Zlp hh
  obtain ⟨hF0,hFL,hLn⟩:=Zeb hbo
  obtain ⟨F,rfl⟩:=Int.eq_ofNat_of_zero_le hF0
  obtain ⟨L,rfl⟩:=Int.eq_ofNat_of_zero_le (show 0≤L by omega)
  simp only [Int.toNat_natCast] at hall
  have hFL':F≤L:=by omega
  have hLn':L<n:=by omega
  have HH:=Lib.hid hbo
  have HALL:=Lib.hid hall
  clear hl hF0 hFL hLn hbo hall
  go_enter Tryz.func201,Tryz.ntmps201
  go_wp2_with (first|(go_at_call 181;refine (ZaZ _ _ B _ _ _ ss _ hS2 (by simp;omega)).mono ?_;rintro e w1 ⟨A1,c1,rfl,ho1,hb1⟩;obtain ⟨hcb,hfb⟩:=Zw hb1;obtain ⟨qea,qfa,qga,qha,qia,qja⟩:=zs3 (show w.heap.size+1+1<w1.heap.size by have hzz:=hb1.size;(try simp at hzz);omega);have hS3:=hS2.below (hb1.mono (by simp;omega));(have hnl:0<ss.length:=(by have:=HL.out;omega));obtain ⟨g,cap,hv,hbg,hglt⟩:=ho1.form hnl;(have hA:A1=some ⟨g,0,none⟩:=(by injection hv));subst hA;clear hv)|(go_at_call 244;refine (Zkn _ _ B _ _ _ ss _ _ _ _ (hS3.alloc (by omega) _) (by simp;omega)).mono ?_;rw [hh];rintro e w2 ⟨rfl,hb2⟩;obtain ⟨hcb2,hfb2⟩:=Zw hb2;obtain ⟨qaa,qba,qca,qda,qka,qla⟩:=zs3 (show w.heap.size+1+1<w2.heap.size by have hzz:=hb2.size;(try simp at hzz);omega);(have hw1:w1.heap.size<w2.heap.size:=(by have hq:=hb2.size;simp at hq;omega))))
  have hbg':w.heap.size+3≤g:=by simp at hbg;omega
  have ho2:=Zx (ho1.alloc (.cells #[.int .i64 d,.int .i64 f,.slice (some ⟨g,0,none⟩) ss.length c1] 26)) hb2
  have hko:w2.heap[w1.heap.size]?=some (.cells #[.int .i64 d,.int .i64 f,.slice (some ⟨g,0,none⟩) ss.length c1] 26):=Za (Zy w1 (.cells #[.int .i64 d,.int .i64 f,.slice (some ⟨g,0,none⟩) ss.length c1] 26)) hb2
  have hb3:Below w.heap.size w w2:=bel
  have hS5:ZaJ w2 B (A) n ss:=(hS3.alloc (by omega) (.cells #[.int .i64 d,.int .i64 f,.slice (some ⟨g,0,none⟩) ss.length c1] 26)).below (hb2.mono (by simp;omega))
  have hwg:w.heap.size≤g:=by omega
  have hBg:B≤g:=by omega
  have qsa:w.heap.size+3≤g:=(by have hzz:=hbg';(try simp at hzz);omega);have qma:g≠w.heap.size:=(by have hzz:=hbg';(try simp at hzz);omega);have qpa:=Ne.symm qma;have qna:g≠w.heap.size+1:=(by have hzz:=hbg';(try simp at hzz);omega);have qqa:=Ne.symm qna;have qoa:g≠w.heap.size+1+1:=(by have hzz:=hbg';(try simp at hzz);omega);have qra:=Ne.symm qoa
  go_loopw [7] (fun kk wr=>∃ K:Nat,F≤K∧K≤L+1∧kk=.int .i64 K∧wr.ownsRow (w.heap.size+1+1+1) 9 1 (.slice (some ⟨g,0,none⟩) ss.length c1) ss.length ((ZbW T ss F (K - F)).map Value.string)∧w2.grownBy wr (some g)) (fun kk _=>L+1 - (intOf kk).toNat)
  case atStart=>exact ⟨F,Nat.le_refl _,by omega,rfl,by rw [Nat.sub_self,ZeB];first|exact ho2|exact ZaD ho2 (Zb3.refl _ _) (by simp),World.grownBy.refl _ _⟩
  case round =>
   obtain ⟨K,hFK,hKL,rfl,hown,hg⟩:=hrel
   have hbr:Below w.heap.size w wr:=Zdx hb3 hg hwg
   have hSr:=hS5.grown hg hBg (by omega)
   have hzr:w2.heap.size≤wr.heap.size:=hg.size
   obtain ⟨hx0,hx1,hx2,hxl⟩:=Za8 ((hg.block w1.heap.size hw1 (by intro e;injection e;omega)).trans hko)
   have hcb3:=(Zg0 hg).1
   have hfb3:=(Zg0 hg).2
   have hz0:w.heap.size<wr.heap.size:=by omega
   have hz1:w.heap.size+1<wr.heap.size:=by omega
   have hz2:w.heap.size+1+1<wr.heap.size:=by omega
   have hgr:g<wr.heap.size:=by omega
   by_cases hlt:K≤L
   ·obtain ⟨hKs,ad,hAad,hab,hx,hsz⟩:=hSr.at_ (k:=K) (by omega)
    subst hAad
    have hKn:K<n:=by omega
    have hKl:K<ss.length:=hKs
    have hcc:=Zkz HALL.out hKs hFK (by omega)
    obtain ⟨L2,K2,hT,hKL2,hL2⟩:=ZcH hcc
    have hq2:∀ W:World,Calls Tryz.prog 245 #[.string ss[K],.int .i64 T] W fun e w'=>e=.returned (.string (ZbM ss[K] T))∧∃ m,w'=W.drewN m:=fun W=>by rw [hT];exact ZiX _ L2 K2 W hsz hKL2 hL2
    have HQ2:=Zk hq2
    clear hq2 hT hKL2 hL2
    have HFS:=Lib.hid (ZdZ T ss F K hFK hKs)
    clear hcc
    obtain ⟨u1,hc1⟩:=ZdP hown (j:=K) hKl
    have hf1:=hown.frozenAt K
    go_wp2
    go_region_with (first|(go_at_call 245;refine (Ze HQ2 _).mono ?_;rintro e w' ⟨rfl,m,rfl⟩))
    all_goals (
     go_wp2
     go_roundw
     case rel =>
      have hst:=hown.stored K (.string (ZbM ss[K] T))
      have ho5:=hst.1
      rw [Zfm,HFS.out] at ho5
      have hg5:=ZbT hg hst.2
      exact ⟨K+1,by omega,by omega,by go_num,by first|exact ho5|exact ho5.drewN _,by first|exact hg5|exact ZeF hg5 _⟩
     case measure=>simp [intOf];omega)
   ·have hKe:K=L+1:=by omega
    subst hKe
    have HP:=Lib.hid (Zex HH.out HALL.out)
    have HFL:=Lib.hid (Zcj T ss F (L+1 - F))
    go_wp2
    refine bodyPost_ret (v:=.tuple #[.agg #[.int .i64 d,.int .i64 f,.slice (some ⟨g,0,none⟩) ss.length c1],.bool true]) (by simp [results,Tryz.results201,go_sem, *]) rfl ?_
    rw [HP.out]
    unfold ZaT
    dsimp only
    rw [HFL.out]
    exact ⟨_,c1,rfl,ZaD hown upr (by first|exact Nat.le_refl _|(simp;done)|omega|(simp;omega)|exact (‹_∧_∧Below _ _ _›).2.2.size),bel⟩
end Go.Proofs.YtlimlolciekimaaGreatDoor
