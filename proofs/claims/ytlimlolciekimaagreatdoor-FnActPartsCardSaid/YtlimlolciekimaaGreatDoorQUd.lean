/- Contracts of the program's and the reference's functions (Box3, Box4). -/
import Derived.Deep.RegionHeld3
import Derived.Test.YtlimlolciekimaaGreatDoorRows
import Derived.Test.YtlimlolciekimaaGreatDoorQUc
namespace Go.Proofs.YtlimlolciekimaaGreatDoor
set_option maxHeartbeats 1600000
open Go.ChangeShapes Go.WideShapes Go.ChangeAt Go.RowKit
set_option linter.unusedVariables false
set_option maxRecDepth 10000
theorem s_TakeBox (d f:Int) (B:Nat) (A:Option Addr) (n c:Nat) (ss:List ByteArray) (F L T:Int) (w:World) (hS:Strs w B A n ss) (hB:B≤w.heap.size) :
  Calls Tryz.prog 202 #[.agg #[.int .i64 d,.int .i64 f,.slice A n c],.agg #[.int .i64 F,.int .i64 L,.int .i64 T]] w (FreshCardB w.heap.size d f (boxRes 102 d f ss F L T).1 (boxRes 102 d f ss F L T).2 w):=by
 have hn:=hS.nb
 have hl:=hS.len
 have hS2:=((hS.alloc hB (.cells #[.int .i64 d,.int .i64 f,.slice A n c] 26)).alloc (by simp;omega) (.cells #[.int .i64 F,.int .i64 L,.int .i64 T] 165)).alloc (by simp;omega) (.cells #[.int .i64 0,.int .i64 0,.slice none 0 0] 26)
 have HL:=Lib.hid hl
 cases hh:boxOk d f ss n F L
 ·have HP:=Lib.hid (boxRes_no (c:=102) (at_:=T) (show boxOk d f ss ss.length F L=false by rw [hl];exact hh))
  clear hl
  go_enter Tryz.func202,Tryz.ntmps202
  go_wp2_with (first|(go_at_call 181;refine (s_l05Copy _ _ B _ _ _ ss _ hS2 (by simp;omega)).mono ?_;rintro e w1 ⟨A1,c1,rfl,ho1,hb1⟩;obtain ⟨hcb,hfb⟩:=bcell hb1;obtain ⟨qea,qfa,qga,qha,qia,qja⟩:=zs3 (show w.heap.size+1+1<w1.heap.size by have hzz:=hb1.size;(try simp at hzz);omega);have hS3:=hS2.below (hb1.mono (by simp;omega)))|(go_at_call 246;refine (s_l11Range _ _ B _ _ _ ss _ _ _ _ (hS3.alloc (by omega) _) (by simp;omega)).mono ?_;rw [hh];rintro e w2 ⟨rfl,hb2⟩;obtain ⟨hcb2,hfb2⟩:=bcell hb2;obtain ⟨qaa,qba,qca,qda,qka,qla⟩:=zs3 (show w.heap.size+1+1<w2.heap.size by have hzz:=hb2.size;(try simp at hzz);omega);(have hw1:w1.heap.size<w2.heap.size:=(by have hq:=hb2.size;simp at hq;omega))))
  refine bodyPost_ret (v:=.tuple #[.agg #[.int .i64 d,.int .i64 f,.slice A1 ss.length c1],.bool false]) (by simp [results,Tryz.results202,go_sem, *]) rfl ?_
  rw [HP.out]
  exact ⟨A1,c1,rfl,own_up ho1 upr (by first|exact Nat.le_refl _|(simp;done)|omega|(simp;omega)|exact (‹_∧_∧Below _ _ _›).2.2.size),bel⟩
 ·obtain ⟨hF0,hFL,hLn⟩:=boxOk_iff hh
  obtain ⟨F,rfl⟩:=Int.eq_ofNat_of_zero_le hF0
  obtain ⟨L,rfl⟩:=Int.eq_ofNat_of_zero_le (show 0≤L by omega)
  have hFL':F≤L:=by omega
  have hLn':L<n:=by omega
  have HH:=Lib.hid (show boxOk d f ss ss.length F L=true by rw [hl];exact hh)
  clear hl hF0 hFL hLn
  go_enter Tryz.func202,Tryz.ntmps202
  go_wp2_with (first|(go_at_call 181;refine (s_l05Copy _ _ B _ _ _ ss _ hS2 (by simp;omega)).mono ?_;rintro e w1 ⟨A1,c1,rfl,ho1,hb1⟩;obtain ⟨hcb,hfb⟩:=bcell hb1;obtain ⟨qea,qfa,qga,qha,qia,qja⟩:=zs3 (show w.heap.size+1+1<w1.heap.size by have hzz:=hb1.size;(try simp at hzz);omega);have hS3:=hS2.below (hb1.mono (by simp;omega));(have hnl:0<ss.length:=(by have:=HL.out;omega));obtain ⟨g,cap,hv,hbg,hglt⟩:=ho1.form hnl;(have hA:A1=some ⟨g,0,none⟩:=(by injection hv));subst hA;clear hv)|(go_at_call 246;refine (s_l11Range _ _ B _ _ _ ss _ _ _ _ (hS3.alloc (by omega) _) (by simp;omega)).mono ?_;rw [hh];rintro e w2 ⟨rfl,hb2⟩;obtain ⟨hcb2,hfb2⟩:=bcell hb2;obtain ⟨qaa,qba,qca,qda,qka,qla⟩:=zs3 (show w.heap.size+1+1<w2.heap.size by have hzz:=hb2.size;(try simp at hzz);omega);(have hw1:w1.heap.size<w2.heap.size:=(by have hq:=hb2.size;simp at hq;omega))))
  have hbg':w.heap.size+3≤g:=by simp at hbg;omega
  have ho2:=own_below (ho1.alloc (.cells #[.int .i64 d,.int .i64 f,.slice (some ⟨g,0,none⟩) ss.length c1] 26)) hb2
  have hko:w2.heap[w1.heap.size]?=some (.cells #[.int .i64 d,.int .i64 f,.slice (some ⟨g,0,none⟩) ss.length c1] 26):=blk_next (blk_new w1 (.cells #[.int .i64 d,.int .i64 f,.slice (some ⟨g,0,none⟩) ss.length c1] 26)) hb2
  have hb3:Below w.heap.size w w2:=bel
  have hS5:Strs w2 B (A) n ss:=(hS3.alloc (by omega) (.cells #[.int .i64 d,.int .i64 f,.slice (some ⟨g,0,none⟩) ss.length c1] 26)).below (hb2.mono (by simp;omega))
  have hwg:w.heap.size≤g:=by omega
  have hBg:B≤g:=by omega
  have qsa:w.heap.size+3≤g:=(by have hzz:=hbg';(try simp at hzz);omega);have qma:g≠w.heap.size:=(by have hzz:=hbg';(try simp at hzz);omega);have qpa:=Ne.symm qma;have qna:g≠w.heap.size+1:=(by have hzz:=hbg';(try simp at hzz);omega);have qqa:=Ne.symm qna;have qoa:g≠w.heap.size+1+1:=(by have hzz:=hbg';(try simp at hzz);omega);have qra:=Ne.symm qoa
  go_loopw [7] (fun kk wr=>∃ K:Nat,F≤K∧K≤L+1∧kk=.int .i64 K∧Hid (allC 102 T ss F (K - F)=true)∧wr.ownsRow (w.heap.size+1+1+1) 9 1 (.slice (some ⟨g,0,none⟩) ss.length c1) ss.length ((flips T ss F (K - F)).map Value.string)∧w2.grownBy wr (some g)) (fun kk _=>L+1 - (intOf kk).toNat)
  case atStart=>exact ⟨F,Nat.le_refl _,by omega,rfl,by rw [Nat.sub_self];exact allC_zero _ _ _ _,by rw [Nat.sub_self,flips_zero];first|exact ho2|exact own_up ho2 (Upper.refl _ _) (by simp),World.grownBy.refl _ _⟩
  case round =>
   obtain ⟨K,hFK,hKL,rfl,HA,hown,hg⟩:=hrel
   have hbr:Below w.heap.size w wr:=only_below_B hb3 hg hwg
   have hSr:=hS5.grown hg hBg (by omega)
   have hzr:w2.heap.size≤wr.heap.size:=hg.size
   obtain ⟨hx0,hx1,hx2,hxl⟩:=blk3 ((hg.block w1.heap.size hw1 (by intro e;injection e;omega)).trans hko)
   have hcb3:=(gcell hg).1
   have hfb3:=(gcell hg).2
   have hz0:w.heap.size<wr.heap.size:=by omega
   have hz1:w.heap.size+1<wr.heap.size:=by omega
   have hz2:w.heap.size+1+1<wr.heap.size:=by omega
   have hgr:g<wr.heap.size:=by omega
   by_cases hlt:K≤L
   ·obtain ⟨hKs,ad,hAad,hab,hx,hsz⟩:=hSr.at_ (k:=K) (by omega)
    subst hAad
    have hKn:K<n:=by omega
    have hKl:K<ss.length:=hKs
    have hq:∀ W:World,Calls Tryz.prog 247 #[.string ss[K],.int .i64 T] W fun e w'=>e=.returned (.bool (cornerB 102 ss[K] T))∧∃ m,w'=W.drewN m:=fun W=>s_IsMountain _ _ W hsz
    cases hcc:cornerB 102 ss[K] T
    ·rw [hcc] at hq
     have HQ:=hide hq
     clear hq
     have HP:=Lib.hid (boxRes_stop (d:=d) (f:=f) (L:=L) (allC_stopK (m:=L+1) hFK hKs (by omega) hcc))
     clear hcc
     go_wp2
     go_quiet ((go_at_call 247;first|exact quiet_ex (unhide HQ _)|exact quiet_add (unhide HQ _)))
     go_wp2_with (go_at_call 181;refine (s_l05Copy _ _ B _ _ _ ss _ (hSr.drewN _) (by simp;omega)).mono ?_;rintro e w4 ⟨A4,c4,rfl,ho4,hb4'⟩;(have hb4:Below wr.heap.size wr w4:=⟨hb4'.os,hb4'.tape,hb4'.output,hb4'.size,hb4'.block⟩);clear hb4';obtain ⟨hcb4,hfb4⟩:=bcell hb4;obtain ⟨qta,qua,qva,qwa,qxa,qya⟩:=zs3 (show w.heap.size+1+1<w4.heap.size by have hzz:=hb4.size;(try simp at hzz);omega))
     refine bodyPost_ret (v:=.tuple #[.agg #[.int .i64 d,.int .i64 f,.slice A4 ss.length c4],.bool false]) (by simp [results,Tryz.results202,go_sem, *]) rfl ?_
     rw [HP.out]
     exact ⟨A4,c4,rfl,own_up ho4 upr (by first|exact Nat.le_refl _|(simp;done)|omega|(simp;omega)|exact (‹_∧_∧Below _ _ _›).2.2.size),bel⟩
    ·rw [hcc] at hq
     have HQ:=hide hq
     clear hq
     obtain ⟨L2,K2,hT,hKL2,hL2⟩:=cornerB_pos hcc
     have hq2:∀ W:World,Calls Tryz.prog 245 #[.string ss[K],.int .i64 T] W fun e w'=>e=.returned (.string (swapB ss[K] T))∧∃ m,w'=W.drewN m:=fun W=>by rw [hT];exact s_l10Swap _ L2 K2 W hsz hKL2 hL2
     have HQ2:=hide hq2
     clear hq2 hT hKL2 hL2
     have HA2:=Lib.hid (allC_stepK hFK hKs HA.out hcc)
     have HFS:=Lib.hid (flips_stepK T ss F K hFK hKs)
     clear hcc
     obtain ⟨u1,hc1⟩:=own_cell hown (j:=K) hKl
     have hf1:=hown.frozenAt K
     go_wp2
     go_quiet ((go_at_call 247;first|exact quiet_ex (unhide HQ _)|exact quiet_add (unhide HQ _)))
     go_wp2
     go_region_with (first|(go_at_call 245;refine (unhide HQ2 _).mono ?_;rintro e w' ⟨rfl,m,rfl⟩))
     all_goals (
      go_wp2
      go_roundw
      case rel =>
       have hst:=hown.stored K (.string (swapB ss[K] T))
       have ho5:=hst.1
       rw [set_map,HFS.out] at ho5
       have hg5:=only_trans hg hst.2
       exact ⟨K+1,by omega,by omega,by go_num,HA2.out,by first|exact ho5|exact ho5.drewN _,by first|exact hg5|exact only_drewN hg5 _⟩
      case measure=>simp [intOf];omega)
   ·have hKe:K=L+1:=by omega
    subst hKe
    have HP:=Lib.hid (boxRes_yes HH.out HA.out)
    have HFL:=Lib.hid (flips_len T ss F (L+1 - F))
    go_wp2
    refine bodyPost_ret (v:=.tuple #[.agg #[.int .i64 d,.int .i64 f,.slice (some ⟨g,0,none⟩) ss.length c1],.bool true]) (by simp [results,Tryz.results202,go_sem, *]) rfl ?_
    rw [HP.out]
    unfold FreshCardB
    dsimp only
    rw [HFL.out]
    exact ⟨_,c1,rfl,own_up hown upr (by first|exact Nat.le_refl _|(simp;done)|omega|(simp;omega)|exact (‹_∧_∧Below _ _ _›).2.2.size),bel⟩
theorem allC_mem {c:UInt8} {at_:Int} {ss:List ByteArray} {F j i:Nat} (h:allC c at_ ss F j=true) (hi:i<ss.length) (h1:F≤i) (h2:i<F+j):cornerB c ss[i] at_=true:=by
 unfold allC at h
 rw [List.all_eq_true] at h
 refine h _ ?_
 rw [List.mem_take_iff_getElem]
 exact ⟨i - F,by rw [List.length_drop];omega,by simp [show F+(i - F)=i by omega]⟩
theorem flips_size {c:UInt8} {at_:Int} {ss:List ByteArray} {F j:Nat} (hs:∀ s∈ss,s.size≤16777216) (h:allC c at_ ss F j=true):∀ x∈flips at_ ss F j,x.size≤16777216:=by
 intro x hx
 obtain ⟨i,hi,rfl⟩:=List.mem_iff_getElem.1 hx
 have hi':i<ss.length:=by rw [flips_len] at hi;exact hi
 have he:(flips at_ ss F j)[i]=if F≤i∧i<F+j then swapB ss[i] at_ else ss[i]:=by simp [flips]
 rw [he]
 split
 ·rename_i hc
  rw [swapB_size (hs _ (List.getElem_mem hi')) (allC_mem h hi' hc.1 hc.2)]
  exact hs _ (List.getElem_mem hi')
 ·exact hs _ (List.getElem_mem hi')
def canAdd (d f:Int) (ss:List ByteArray) (F L T:Int):Bool:=boxOk d f ss ss.length F L&&allC 100 T ss F.toNat (L.toNat+1 - F.toNat)
theorem canAdd_no {d f:Int} {ss:List ByteArray} {F L T:Int} (h:canAdd d f ss F L T=false):boxRes 100 d f ss F L T=(ss,false):=by
 unfold boxRes;rw [if_neg];intro hh;unfold canAdd at h;rw [hh.1,hh.2] at h;cases h
theorem canAdd_yes {d f:Int} {ss:List ByteArray} {F L T:Int} (h:canAdd d f ss F L T=true):boxOk d f ss ss.length F L=true∧allC 100 T ss F.toNat (L.toNat+1 - F.toNat)=true:=by
 unfold canAdd at h;simpa using h
theorem s_CanAdd (d f:Int) (B:Nat) (A:Option Addr) (n c:Nat) (ss:List ByteArray) (F L T:Int) (w:World) (hS:Strs w B A n ss) (hB:B≤w.heap.size) :
  Calls Tryz.prog 244 #[.agg #[.int .i64 d,.int .i64 f,.slice A n c],.agg #[.int .i64 F,.int .i64 L,.int .i64 T]] w fun e w'=>e=.returned (.bool (canAdd d f ss F L T))∧Below w.heap.size w w':=by
 have hn:=hS.nb
 have hl:=hS.len
 have hS2:=((hS.alloc hB (.cells #[.int .i64 d,.int .i64 f,.slice A n c] 26)).alloc (by simp;omega) (.cells #[.int .i64 F,.int .i64 L,.int .i64 T] 165))
 have HL:=Lib.hid hl
 cases hh:boxOk d f ss n F L
 ·have HP:=Lib.hid (show canAdd d f ss F L T=false by unfold canAdd;rw [hl,hh];rfl)
  clear hl
  go_enter Tryz.func244,Tryz.ntmps244
  go_wp2_with (first|(go_at_call 246;refine (s_l11Range _ _ B _ _ _ ss _ _ _ _ hS2 (by simp;omega)).mono ?_;rw [hh];rintro e w2 ⟨rfl,hb2⟩;obtain ⟨hcb2,hfb2⟩:=bcell hb2;obtain ⟨qaa,qba,qca,qda⟩:=zs2 (show w.heap.size+1<w2.heap.size by have hzz:=hb2.size;(try simp at hzz);omega)))
  go_ret
  exact ⟨ret_bool HP.out.symm,bel⟩
 ·obtain ⟨hF0,hFL,hLn⟩:=boxOk_iff hh
  obtain ⟨F,rfl⟩:=Int.eq_ofNat_of_zero_le hF0
  obtain ⟨L,rfl⟩:=Int.eq_ofNat_of_zero_le (show 0≤L by omega)
  have hFL':F≤L:=by omega
  have hLn':L<n:=by omega
  have HH:=Lib.hid (show boxOk d f ss ss.length F L=true by rw [hl];exact hh)
  clear hl hF0 hFL hLn
  go_enter Tryz.func244,Tryz.ntmps244
  go_wp2_with (first|(go_at_call 246;refine (s_l11Range _ _ B _ _ _ ss _ _ _ _ hS2 (by simp;omega)).mono ?_;rw [hh];rintro e w2 ⟨rfl,hb2⟩;obtain ⟨hcb2,hfb2⟩:=bcell hb2;obtain ⟨qaa,qba,qca,qda⟩:=zs2 (show w.heap.size+1<w2.heap.size by have hzz:=hb2.size;(try simp at hzz);omega)))
  have hS5:Strs w2 B A n ss:=hS2.below (hb2.mono (by simp;omega))
  have hb3:Below w.heap.size w w2:=bel
  have hBw:B≤w2.heap.size:=by omega
  go_loopw [5] (fun kk wr=>∃ K m:Nat,F≤K∧K≤L+1∧kk=.int .i64 K∧Hid (allC 100 T ss F (K - F)=true)∧wr=w2.drewN m) (fun kk _=>L+1 - (intOf kk).toNat)
  case atStart=>exact ⟨F,0,Nat.le_refl _,by omega,rfl,by rw [Nat.sub_self];exact allC_zero _ _ _ _,rfl⟩
  case round =>
   obtain ⟨K,m,hFK,hKL,rfl,HA,rfl⟩:=hrel
   by_cases hlt:K≤L
   ·obtain ⟨hKs,ad,hAad,hab,hx,hsz⟩:=hS5.at_ (k:=K) (by omega)
    subst hAad
    have hKn:K<n:=by omega
    have hq:∀ W:World,Calls Tryz.prog 276 #[.string ss[K],.int .i64 T] W fun e w'=>e=.returned (.bool (cornerB 100 ss[K] T))∧∃ m,w'=W.drewN m:=fun W=>s_IsValley _ _ W hsz
    cases hcc:cornerB 100 ss[K] T
    ·rw [hcc] at hq
     have HQ:=hide hq
     clear hq
     have HP:=Lib.hid (show canAdd d f ss F L T=false by unfold canAdd;simp only [Int.toNat_natCast];rw [allC_stopK (m:=L+1) hFK hKs (by omega) hcc];simp)
     clear hcc
     go_wp2
     go_quiet ((go_at_call 276;first|exact quiet_ex (unhide HQ _)|exact quiet_add (unhide HQ _)))
     go_wp2
     go_ret
     exact ⟨ret_bool HP.out.symm,bel⟩
    ·rw [hcc] at hq
     have HQ:=hide hq
     clear hq
     have HA2:=Lib.hid (allC_stepK hFK hKs HA.out hcc)
     clear hcc
     go_wp2
     go_quiet ((go_at_call 276;first|exact quiet_ex (unhide HQ _)|exact quiet_add (unhide HQ _)))
     go_wp2
     go_roundw
     case rel=>exact ⟨K+1,_,by omega,by omega,by go_num,HA2.out,by first|rfl|exact World.drewN_drewN _ _ _⟩
     case measure=>simp [intOf];omega
   ·have hKe:K=L+1:=by omega
    subst hKe
    have HP:=Lib.hid (show canAdd d f ss F L T=true by unfold canAdd;simp only [Int.toNat_natCast];rw [HH.out,HA.out];rfl)
    go_wp2
    go_ret
    exact ⟨ret_bool HP.out.symm,bel⟩
theorem s_AddBox (d f:Int) (B:Nat) (A:Option Addr) (n c:Nat) (ss:List ByteArray) (F L T:Int) (w:World) (hS:Strs w B A n ss) (hB:B≤w.heap.size) :
  Calls Tryz.prog 201 #[.agg #[.int .i64 d,.int .i64 f,.slice A n c],.agg #[.int .i64 F,.int .i64 L,.int .i64 T]] w (FreshCardB w.heap.size d f (boxRes 100 d f ss F L T).1 (boxRes 100 d f ss F L T).2 w):=by
 have hn:=hS.nb
 have hl:=hS.len
 have hS2:=((hS.alloc hB (.cells #[.int .i64 d,.int .i64 f,.slice A n c] 26)).alloc (by simp;omega) (.cells #[.int .i64 F,.int .i64 L,.int .i64 T] 165)).alloc (by simp;omega) (.cells #[.int .i64 0,.int .i64 0,.slice none 0 0] 26)
 have HL:=Lib.hid hl
 cases hh:canAdd d f ss F L T
 ·have HP:=Lib.hid (canAdd_no hh)
  clear hl
  go_enter Tryz.func201,Tryz.ntmps201
  go_wp2_with (first|(go_at_call 181;refine (s_l05Copy _ _ B _ _ _ ss _ hS2 (by simp;omega)).mono ?_;rintro e w1 ⟨A1,c1,rfl,ho1,hb1⟩;obtain ⟨hcb,hfb⟩:=bcell hb1;obtain ⟨qea,qfa,qga,qha,qia,qja⟩:=zs3 (show w.heap.size+1+1<w1.heap.size by have hzz:=hb1.size;(try simp at hzz);omega);have hS3:=hS2.below (hb1.mono (by simp;omega)))|(go_at_call 244;refine (s_CanAdd _ _ B _ _ _ ss _ _ _ _ (hS3.alloc (by omega) _) (by simp;omega)).mono ?_;rw [hh];rintro e w2 ⟨rfl,hb2⟩;obtain ⟨hcb2,hfb2⟩:=bcell hb2;obtain ⟨qaa,qba,qca,qda,qka,qla⟩:=zs3 (show w.heap.size+1+1<w2.heap.size by have hzz:=hb2.size;(try simp at hzz);omega);(have hw1:w1.heap.size<w2.heap.size:=(by have hq:=hb2.size;simp at hq;omega))))
  refine bodyPost_ret (v:=.tuple #[.agg #[.int .i64 d,.int .i64 f,.slice A1 ss.length c1],.bool false]) (by simp [results,Tryz.results201,go_sem, *]) rfl ?_
  rw [HP.out]
  exact ⟨A1,c1,rfl,own_up ho1 upr (by first|exact Nat.le_refl _|(simp;done)|omega|(simp;omega)|exact (‹_∧_∧Below _ _ _›).2.2.size),bel⟩
 ·obtain ⟨hbo,hall⟩:=canAdd_yes hh
  obtain ⟨hF0,hFL,hLn⟩:=boxOk_iff hbo
  obtain ⟨F,rfl⟩:=Int.eq_ofNat_of_zero_le hF0
  obtain ⟨L,rfl⟩:=Int.eq_ofNat_of_zero_le (show 0≤L by omega)
  simp only [Int.toNat_natCast] at hall
  have hFL':F≤L:=by omega
  have hLn':L<n:=by omega
  have HH:=Lib.hid hbo
  have HALL:=Lib.hid hall
  clear hl hF0 hFL hLn hbo hall
  go_enter Tryz.func201,Tryz.ntmps201
  go_wp2_with (first|(go_at_call 181;refine (s_l05Copy _ _ B _ _ _ ss _ hS2 (by simp;omega)).mono ?_;rintro e w1 ⟨A1,c1,rfl,ho1,hb1⟩;obtain ⟨hcb,hfb⟩:=bcell hb1;obtain ⟨qea,qfa,qga,qha,qia,qja⟩:=zs3 (show w.heap.size+1+1<w1.heap.size by have hzz:=hb1.size;(try simp at hzz);omega);have hS3:=hS2.below (hb1.mono (by simp;omega));(have hnl:0<ss.length:=(by have:=HL.out;omega));obtain ⟨g,cap,hv,hbg,hglt⟩:=ho1.form hnl;(have hA:A1=some ⟨g,0,none⟩:=(by injection hv));subst hA;clear hv)|(go_at_call 244;refine (s_CanAdd _ _ B _ _ _ ss _ _ _ _ (hS3.alloc (by omega) _) (by simp;omega)).mono ?_;rw [hh];rintro e w2 ⟨rfl,hb2⟩;obtain ⟨hcb2,hfb2⟩:=bcell hb2;obtain ⟨qaa,qba,qca,qda,qka,qla⟩:=zs3 (show w.heap.size+1+1<w2.heap.size by have hzz:=hb2.size;(try simp at hzz);omega);(have hw1:w1.heap.size<w2.heap.size:=(by have hq:=hb2.size;simp at hq;omega))))
  have hbg':w.heap.size+3≤g:=by simp at hbg;omega
  have ho2:=own_below (ho1.alloc (.cells #[.int .i64 d,.int .i64 f,.slice (some ⟨g,0,none⟩) ss.length c1] 26)) hb2
  have hko:w2.heap[w1.heap.size]?=some (.cells #[.int .i64 d,.int .i64 f,.slice (some ⟨g,0,none⟩) ss.length c1] 26):=blk_next (blk_new w1 (.cells #[.int .i64 d,.int .i64 f,.slice (some ⟨g,0,none⟩) ss.length c1] 26)) hb2
  have hb3:Below w.heap.size w w2:=bel
  have hS5:Strs w2 B (A) n ss:=(hS3.alloc (by omega) (.cells #[.int .i64 d,.int .i64 f,.slice (some ⟨g,0,none⟩) ss.length c1] 26)).below (hb2.mono (by simp;omega))
  have hwg:w.heap.size≤g:=by omega
  have hBg:B≤g:=by omega
  have qsa:w.heap.size+3≤g:=(by have hzz:=hbg';(try simp at hzz);omega);have qma:g≠w.heap.size:=(by have hzz:=hbg';(try simp at hzz);omega);have qpa:=Ne.symm qma;have qna:g≠w.heap.size+1:=(by have hzz:=hbg';(try simp at hzz);omega);have qqa:=Ne.symm qna;have qoa:g≠w.heap.size+1+1:=(by have hzz:=hbg';(try simp at hzz);omega);have qra:=Ne.symm qoa
  go_loopw [7] (fun kk wr=>∃ K:Nat,F≤K∧K≤L+1∧kk=.int .i64 K∧wr.ownsRow (w.heap.size+1+1+1) 9 1 (.slice (some ⟨g,0,none⟩) ss.length c1) ss.length ((flips T ss F (K - F)).map Value.string)∧w2.grownBy wr (some g)) (fun kk _=>L+1 - (intOf kk).toNat)
  case atStart=>exact ⟨F,Nat.le_refl _,by omega,rfl,by rw [Nat.sub_self,flips_zero];first|exact ho2|exact own_up ho2 (Upper.refl _ _) (by simp),World.grownBy.refl _ _⟩
  case round =>
   obtain ⟨K,hFK,hKL,rfl,hown,hg⟩:=hrel
   have hbr:Below w.heap.size w wr:=only_below_B hb3 hg hwg
   have hSr:=hS5.grown hg hBg (by omega)
   have hzr:w2.heap.size≤wr.heap.size:=hg.size
   obtain ⟨hx0,hx1,hx2,hxl⟩:=blk3 ((hg.block w1.heap.size hw1 (by intro e;injection e;omega)).trans hko)
   have hcb3:=(gcell hg).1
   have hfb3:=(gcell hg).2
   have hz0:w.heap.size<wr.heap.size:=by omega
   have hz1:w.heap.size+1<wr.heap.size:=by omega
   have hz2:w.heap.size+1+1<wr.heap.size:=by omega
   have hgr:g<wr.heap.size:=by omega
   by_cases hlt:K≤L
   ·obtain ⟨hKs,ad,hAad,hab,hx,hsz⟩:=hSr.at_ (k:=K) (by omega)
    subst hAad
    have hKn:K<n:=by omega
    have hKl:K<ss.length:=hKs
    have hcc:=allC_mem HALL.out hKs hFK (by omega)
    obtain ⟨L2,K2,hT,hKL2,hL2⟩:=cornerB_pos hcc
    have hq2:∀ W:World,Calls Tryz.prog 245 #[.string ss[K],.int .i64 T] W fun e w'=>e=.returned (.string (swapB ss[K] T))∧∃ m,w'=W.drewN m:=fun W=>by rw [hT];exact s_l10Swap _ L2 K2 W hsz hKL2 hL2
    have HQ2:=hide hq2
    clear hq2 hT hKL2 hL2
    have HFS:=Lib.hid (flips_stepK T ss F K hFK hKs)
    clear hcc
    obtain ⟨u1,hc1⟩:=own_cell hown (j:=K) hKl
    have hf1:=hown.frozenAt K
    go_wp2
    go_region_with (first|(go_at_call 245;refine (unhide HQ2 _).mono ?_;rintro e w' ⟨rfl,m,rfl⟩))
    all_goals (
     go_wp2
     go_roundw
     case rel =>
      have hst:=hown.stored K (.string (swapB ss[K] T))
      have ho5:=hst.1
      rw [set_map,HFS.out] at ho5
      have hg5:=only_trans hg hst.2
      exact ⟨K+1,by omega,by omega,by go_num,by first|exact ho5|exact ho5.drewN _,by first|exact hg5|exact only_drewN hg5 _⟩
     case measure=>simp [intOf];omega)
   ·have hKe:K=L+1:=by omega
    subst hKe
    have HP:=Lib.hid (boxRes_yes HH.out HALL.out)
    have HFL:=Lib.hid (flips_len T ss F (L+1 - F))
    go_wp2
    refine bodyPost_ret (v:=.tuple #[.agg #[.int .i64 d,.int .i64 f,.slice (some ⟨g,0,none⟩) ss.length c1],.bool true]) (by simp [results,Tryz.results201,go_sem, *]) rfl ?_
    rw [HP.out]
    unfold FreshCardB
    dsimp only
    rw [HFL.out]
    exact ⟨_,c1,rfl,own_up hown upr (by first|exact Nat.le_refl _|(simp;done)|omega|(simp;omega)|exact (‹_∧_∧Below _ _ _›).2.2.size),bel⟩
end Go.Proofs.YtlimlolciekimaaGreatDoor
