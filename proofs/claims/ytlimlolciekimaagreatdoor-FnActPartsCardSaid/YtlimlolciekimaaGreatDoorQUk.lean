/- Contracts of the program's and the reference's functions (Item5). -/
import Derived.Test.YtlimlolciekimaaGreatDoorRows
import Derived.Test.YtlimlolciekimaaGreatDoorQUj
import Derived.Test.YtlimlolciekimaaGreatDoorQUd
namespace Go.Proofs.YtlimlolciekimaaGreatDoor
set_option maxHeartbeats 1600000
open Go.ChangeShapes Go.WideShapes Go.ChangeAt Go.RowKit
set_option linter.unusedVariables false
set_option linter.unusedSimpArgs false
set_option maxRecDepth 10000
set_option maxHeartbeats 6400000 in
theorem s_CatalogOk (P:List PItem) (B:Nat) (A:Option Addr) (n c:Nat) (L:List RItem) (w:World) (hp:plI L=P) (hS:Items w B A n L) (hB:B≤w.heap.size) :
  Calls Tryz.prog 93 #[.slice A n c] w fun e w'=>e=.returned (.bool (catOk P))∧Below w.heap.size w w':=by
 have hn:=hS.nb
 have hl:P.length=n:=by rw [← hp,plI_len,hS.len]
 have HL:=Lib.hid hl
 have HP:=Lib.hid hp
 clear hl hp
 go_enter Tryz.func93,Tryz.ntmps93
 go_wp2
 go_loopw [3] (fun i wr=>∃ j:Nat,j≤n∧i=.int .i64 j∧Hid ((List.range j).all (itGood P)=true)∧Below w.heap.size w wr) (fun i _=>n - (intOf i).toNat)
 case atStart=>exact ⟨0,Nat.zero_le _,rfl,by unfold Hid;simp,Below.refl _ _⟩
 case round =>
  obtain ⟨j,hj,rfl,HA,hb⟩:=hrel
  have hzr:=hb.size
  by_cases hlt:j<n
  ·have hSr:=hS.below (hb.mono hB)
   obtain ⟨hk1,ad,rfl,hab,hc0,hc1,hc2,hc3,hss,hnm⟩:=hSr.at_ hlt
   have hx:P[j]?=some L[j].x:=by rw [← HP.out];exact plI_at hk1
   have HX:=Lib.hid hx
   have hkP:j<P.length:=by have:=HL.out;omega
   have HKP:=hide hkP
   clear hx hkP
   obtain ⟨nm,hnme⟩:∃ a,a=L[j].x.nm:=⟨_,rfl⟩
   obtain ⟨d,hde⟩:∃ a,a=L[j].x.d:=⟨_,rfl⟩
   obtain ⟨f,hfe⟩:∃ a,a=L[j].x.f:=⟨_,rfl⟩
   obtain ⟨ss,hse⟩:∃ a,a=L[j].x.ss:=⟨_,rfl⟩
   rw [← hnme] at hc0 hnm;rw [← hde] at hc1;rw [← hfe] at hc2;rw [← hse] at hc3 hss
   have hxx:L[j].x=⟨nm,d,f,ss⟩:=by rw [hnme,hde,hfe,hse]
   rw [hxx] at HX
   generalize L[j].A=A0 at *
   generalize L[j].c=c0 at *
   clear hnme hde hfe hse hxx hk1
   cases hnok:nameOk nm
   ·have HF:=Lib.hid (catOk_no (unhide HKP) (by unfold itGood;rw [HX.out];simp [hnok]))
    have hqn:=fun W=>s_NameOk nm W hnm
    simp only [hnok] at hqn
    have HQN:=hide hqn
    clear hqn
    go_wp2
    have hs0:=hss
    obtain ⟨w0,hw0⟩:∃ W,W=wr:=⟨_,rfl⟩
    have hbW:Below wr.heap.size wr w0:=by rw [hw0];exact Below.refl _ _
    rw [← hw0] at hs0 hc0 hc1 hc2 hc3 ⊢
    have hq2:wr.heap.size≤w0.heap.size:=hbW.size
    have hq1:(ad.add (j * 4)).block<w0.heap.size:=by rw [block_of_add];omega
    clear hw0
    have hs0B:=hs0.more (B':=w0.heap.size) (by omega)
    refine wp_region_noPanic ?_
    refine wp_region_held_drew (S:=(fun W=>(∀ p:Addr,p.block<w0.heap.size→W.cell? p=w0.cell? p)∧(∀ p:Addr,p.block<w0.heap.size→W.frozen? p=w0.frozen? p)∧Below w0.heap.size w0 W)) (by kernel_rfl) ?_ (fun hHeld=>?_)
    ·exact (keep_ofP bel)
    change wpAnyH _ _ _ _ _ 34 #[false,false,false,false,false,false,false,false,false,false,false,false,false,false,false,false,false,false,false,false,false,false,false,false,false,false,false,false,false,false,false,false,false,false] _ _
    iterate 5 (refine wgN 34 ?_ rfl (by kernel_rfl) (by kernel_rfl) (by kernel_rfl) (fun _ _ _ h=>h) (by rfl) ?_ (by assumption) ?_;rotate_left;(focus (intro w_ hSw;(try dsimp only at hSw);go_simp;(try (with_reducible rfl))));(try simp only [Nat.reduceAdd,Nat.reduceSub,List.getElem_toArray,List.getElem_cons_zero,List.getElem_cons_succ,Act.put,List.setIfInBounds_toArray,List.set_cons_zero,List.set_cons_succ]))
    refine wpAnyH_ready (rs:=[5]) (by kernel_rfl) (by simp) ?_;refine AllReadyH.cons rfl (fun K hK=>?_) AllReadyH.nil;go_simp
    (refine (unhide HQN _).mono ?_;rintro e w' ⟨rfl,rfl⟩)
    (try (go_wp2_with fail))
    refine hK.out _ _ ?_ (fun hHeld=>?_)
    ·exact (keep_ofP bel)
    clear hK K
    iterate 2 (refine wgN 34 ?_ rfl (by kernel_rfl) (by kernel_rfl) (by kernel_rfl) (fun _ _ _ h=>h) (by rfl) ?_ (by assumption) ?_;rotate_left;(focus (intro w_ hSw;(try dsimp only at hSw);go_simp;(try (with_reducible rfl))));(try simp only [Nat.reduceAdd,Nat.reduceSub,List.getElem_toArray,List.getElem_cons_zero,List.getElem_cons_succ,Act.put,List.setIfInBounds_toArray,List.set_cons_zero,List.set_cons_succ]))
    iterate 7 (refine wsN 34 rfl (by kernel_rfl) (by kernel_rfl) (by kernel_rfl) (fun _ _ _ h=>h) (by rfl) (by assumption) ?_;(try simp only [Nat.reduceAdd,Nat.reduceSub,List.getElem_toArray,List.getElem_cons_zero,List.getElem_cons_succ,Act.put,List.setIfInBounds_toArray,List.set_cons_zero,List.set_cons_succ]))
    iterate 2 (refine wgN 34 ?_ rfl (by kernel_rfl) (by kernel_rfl) (by kernel_rfl) (fun _ _ _ h=>h) (by rfl) ?_ (by assumption) ?_;rotate_left;(focus (intro w_ hSw;(try dsimp only at hSw);go_simp;(try (with_reducible rfl))));(try simp only [Nat.reduceAdd,Nat.reduceSub,List.getElem_toArray,List.getElem_cons_zero,List.getElem_cons_succ,Act.put,List.setIfInBounds_toArray,List.set_cons_zero,List.set_cons_succ]))
    iterate 16 (refine wsN 34 rfl (by kernel_rfl) (by kernel_rfl) (by kernel_rfl) (fun _ _ _ h=>h) (by rfl) (by assumption) ?_;(try simp only [Nat.reduceAdd,Nat.reduceSub,List.getElem_toArray,List.getElem_cons_zero,List.getElem_cons_succ,Act.put,List.setIfInBounds_toArray,List.set_cons_zero,List.set_cons_succ]))
    iterate 1 (refine wgN 34 ?_ rfl (by kernel_rfl) (by kernel_rfl) (by kernel_rfl) (fun _ _ _ h=>h) (by rfl) ?_ (by assumption) ?_;rotate_left;(focus (intro w_ hSw;(try dsimp only at hSw);go_simp;(try (with_reducible rfl))));(try simp only [Nat.reduceAdd,Nat.reduceSub,List.getElem_toArray,List.getElem_cons_zero,List.getElem_cons_succ,Act.put,List.setIfInBounds_toArray,List.set_cons_zero,List.set_cons_succ]))
    refine wpAnyH_done (by kernel_rfl) ?_ _
    refine NoPanic.normal ?_
    all_goals (
     go_wp2
     go_ret
     exact ⟨ret_bool HF.out.symm,hb.trans ((hbW.trans (Below.mono (by first|exact Below.refl _ _|exact (Below.refl _ _).drew|exact below_drewN (Below.refl _ _) _|exact bel) hq2)).mono hzr)⟩)
   ·cases hck:cardOk d f ss
    ·have HF:=Lib.hid (catOk_no (unhide HKP) (by unfold itGood;rw [HX.out];simp [hck]))
     have hqn:=fun W=>s_NameOk nm W hnm
     simp only [hnok] at hqn
     have HQN:=hide hqn
     clear hqn
     go_wp2
     have hs0:=hss
     obtain ⟨w0,hw0⟩:∃ W,W=wr:=⟨_,rfl⟩
     have hbW:Below wr.heap.size wr w0:=by rw [hw0];exact Below.refl _ _
     rw [← hw0] at hs0 hc0 hc1 hc2 hc3 ⊢
     have hq2:wr.heap.size≤w0.heap.size:=hbW.size
     have hq1:(ad.add (j * 4)).block<w0.heap.size:=by rw [block_of_add];omega
     clear hw0
     have hs0B:=hs0.more (B':=w0.heap.size) (by omega)
     refine wp_region_noPanic ?_
     refine wp_region_held_drew (S:=(fun W=>(∀ p:Addr,p.block<w0.heap.size→W.cell? p=w0.cell? p)∧(∀ p:Addr,p.block<w0.heap.size→W.frozen? p=w0.frozen? p)∧Below w0.heap.size w0 W)) (by kernel_rfl) ?_ (fun hHeld=>?_)
     ·exact (keep_ofP bel)
     change wpAnyH _ _ _ _ _ 34 #[false,false,false,false,false,false,false,false,false,false,false,false,false,false,false,false,false,false,false,false,false,false,false,false,false,false,false,false,false,false,false,false,false,false] _ _
     iterate 5 (refine wgN 34 ?_ rfl (by kernel_rfl) (by kernel_rfl) (by kernel_rfl) (fun _ _ _ h=>h) (by rfl) ?_ (by assumption) ?_;rotate_left;(focus (intro w_ hSw;(try dsimp only at hSw);go_simp;(try (with_reducible rfl))));(try simp only [Nat.reduceAdd,Nat.reduceSub,List.getElem_toArray,List.getElem_cons_zero,List.getElem_cons_succ,Act.put,List.setIfInBounds_toArray,List.set_cons_zero,List.set_cons_succ]))
     refine wpAnyH_ready (rs:=[5]) (by kernel_rfl) (by simp) ?_;refine AllReadyH.cons rfl (fun K hK=>?_) AllReadyH.nil;go_simp
     (refine (unhide HQN _).mono ?_;rintro e w' ⟨rfl,rfl⟩)
     (try (go_wp2_with fail))
     refine hK.out _ _ ?_ (fun hHeld=>?_)
     ·exact (keep_ofP bel)
     clear hK K
     iterate 7 (refine wgN 34 ?_ rfl (by kernel_rfl) (by kernel_rfl) (by kernel_rfl) (fun _ _ _ h=>h) (by rfl) ?_ (by assumption) ?_;rotate_left;(focus (intro w_ hSw;(try dsimp only at hSw);go_simp;(try (with_reducible rfl))));(try simp only [Nat.reduceAdd,Nat.reduceSub,List.getElem_toArray,List.getElem_cons_zero,List.getElem_cons_succ,Act.put,List.setIfInBounds_toArray,List.set_cons_zero,List.set_cons_succ]))
     refine wpAnyH_ready (rs:=[13]) (by kernel_rfl) (by simp) ?_;refine AllReadyH.cons rfl (fun K hK=>?_) AllReadyH.nil;go_simp
     (have hq:=(‹_∧_∧Below _ _ _›).2.2;refine (s_CardOk d f _ _ _ ss _ ?_).mono ?_;exact (hs0B.below hq).more hq.size;rw [hck];rintro e w2 ⟨rfl,hb2⟩)
     (try (go_wp2_with fail))
     refine hK.out _ _ ?_ (fun hHeld=>?_)
     ·exact (keep_ofP bel)
     clear hK K
     iterate 3 (refine wgN 34 ?_ rfl (by kernel_rfl) (by kernel_rfl) (by kernel_rfl) (fun _ _ _ h=>h) (by rfl) ?_ (by assumption) ?_;rotate_left;(focus (intro w_ hSw;(try dsimp only at hSw);go_simp;(try (with_reducible rfl))));(try simp only [Nat.reduceAdd,Nat.reduceSub,List.getElem_toArray,List.getElem_cons_zero,List.getElem_cons_succ,Act.put,List.setIfInBounds_toArray,List.set_cons_zero,List.set_cons_succ]))
     iterate 16 (refine wsN 34 rfl (by kernel_rfl) (by kernel_rfl) (by kernel_rfl) (fun _ _ _ h=>h) (by rfl) (by assumption) ?_;(try simp only [Nat.reduceAdd,Nat.reduceSub,List.getElem_toArray,List.getElem_cons_zero,List.getElem_cons_succ,Act.put,List.setIfInBounds_toArray,List.set_cons_zero,List.set_cons_succ]))
     iterate 1 (refine wgN 34 ?_ rfl (by kernel_rfl) (by kernel_rfl) (by kernel_rfl) (fun _ _ _ h=>h) (by rfl) ?_ (by assumption) ?_;rotate_left;(focus (intro w_ hSw;(try dsimp only at hSw);go_simp;(try (with_reducible rfl))));(try simp only [Nat.reduceAdd,Nat.reduceSub,List.getElem_toArray,List.getElem_cons_zero,List.getElem_cons_succ,Act.put,List.setIfInBounds_toArray,List.set_cons_zero,List.set_cons_succ]))
     refine wpAnyH_done (by kernel_rfl) ?_ _
     refine NoPanic.normal ?_
     all_goals (
      go_wp2
      go_ret
      exact ⟨ret_bool HF.out.symm,hb.trans ((hbW.trans (Below.mono (by first|exact hb2|exact (Below.refl _ _).drew.trans hb2|exact below_drewN hb2 _|exact (below_drewN (Below.refl _ _) _).trans hb2|exact bel) hq2)).mono hzr)⟩)
    ·by_cases hj0:j=0
     ·have hjz:¬0<j:=(by omega);have hdj:decide (0<j)=false:=(by simp [hj0]);have HJ0:=Lib.hid hj0;clear hj0
      have hqn:=fun W=>s_NameOk nm W hnm
      simp only [hnok] at hqn
      have HQN:=hide hqn
      clear hqn
      go_wp2
      have hs0:=hss
      obtain ⟨w0,hw0⟩:∃ W,W=wr:=⟨_,rfl⟩
      have hbW:Below wr.heap.size wr w0:=by rw [hw0];exact Below.refl _ _
      rw [← hw0] at hs0 hc0 hc1 hc2 hc3 ⊢
      have hq2:wr.heap.size≤w0.heap.size:=hbW.size
      have hq1:(ad.add (j * 4)).block<w0.heap.size:=by rw [block_of_add];omega
      clear hw0
      have hs0B:=hs0.more (B':=w0.heap.size) (by omega)
      refine wp_region_noPanic ?_
      refine wp_region_held_drew (S:=(fun W=>(∀ p:Addr,p.block<w0.heap.size→W.cell? p=w0.cell? p)∧(∀ p:Addr,p.block<w0.heap.size→W.frozen? p=w0.frozen? p)∧Below w0.heap.size w0 W)) (by kernel_rfl) ?_ (fun hHeld=>?_)
      ·exact (keep_ofP bel)
      change wpAnyH _ _ _ _ _ 34 #[false,false,false,false,false,false,false,false,false,false,false,false,false,false,false,false,false,false,false,false,false,false,false,false,false,false,false,false,false,false,false,false,false,false] _ _
      iterate 5 (refine wgN 34 ?_ rfl (by kernel_rfl) (by kernel_rfl) (by kernel_rfl) (fun _ _ _ h=>h) (by rfl) ?_ (by assumption) ?_;rotate_left;(focus (intro w_ hSw;(try dsimp only at hSw);go_simp;(try (with_reducible rfl))));(try simp only [Nat.reduceAdd,Nat.reduceSub,List.getElem_toArray,List.getElem_cons_zero,List.getElem_cons_succ,Act.put,List.setIfInBounds_toArray,List.set_cons_zero,List.set_cons_succ]))
      refine wpAnyH_ready (rs:=[5]) (by kernel_rfl) (by simp) ?_;refine AllReadyH.cons rfl (fun K hK=>?_) AllReadyH.nil;go_simp
      (refine (unhide HQN _).mono ?_;rintro e w' ⟨rfl,rfl⟩)
      (try (go_wp2_with fail))
      refine hK.out _ _ ?_ (fun hHeld=>?_)
      ·exact (keep_ofP bel)
      clear hK K
      iterate 7 (refine wgN 34 ?_ rfl (by kernel_rfl) (by kernel_rfl) (by kernel_rfl) (fun _ _ _ h=>h) (by rfl) ?_ (by assumption) ?_;rotate_left;(focus (intro w_ hSw;(try dsimp only at hSw);go_simp;(try (with_reducible rfl))));(try simp only [Nat.reduceAdd,Nat.reduceSub,List.getElem_toArray,List.getElem_cons_zero,List.getElem_cons_succ,Act.put,List.setIfInBounds_toArray,List.set_cons_zero,List.set_cons_succ]))
      refine wpAnyH_ready (rs:=[13]) (by kernel_rfl) (by simp) ?_;refine AllReadyH.cons rfl (fun K hK=>?_) AllReadyH.nil;go_simp
      (have hq:=(‹_∧_∧Below _ _ _›).2.2;refine (s_CardOk d f _ _ _ ss _ ?_).mono ?_;exact (hs0B.below hq).more hq.size;rw [hck];rintro e w2 ⟨rfl,hb2⟩)
      (try (go_wp2_with fail))
      refine hK.out _ _ ?_ (fun hHeld=>?_)
      ·exact (keep_ofP bel)
      clear hK K
      iterate 6 (refine wgN 34 ?_ rfl (by kernel_rfl) (by kernel_rfl) (by kernel_rfl) (fun _ _ _ h=>h) (by rfl) ?_ (by assumption) ?_;rotate_left;(focus (intro w_ hSw;(try dsimp only at hSw);go_simp;(try (with_reducible rfl))));(try simp only [Nat.reduceAdd,Nat.reduceSub,List.getElem_toArray,List.getElem_cons_zero,List.getElem_cons_succ,Act.put,List.setIfInBounds_toArray,List.set_cons_zero,List.set_cons_succ]))
      iterate 12 (refine wsN 34 rfl (by kernel_rfl) (by kernel_rfl) (by kernel_rfl) (fun _ _ _ h=>h) (by rfl) (by assumption) ?_;(try simp only [Nat.reduceAdd,Nat.reduceSub,List.getElem_toArray,List.getElem_cons_zero,List.getElem_cons_succ,Act.put,List.setIfInBounds_toArray,List.set_cons_zero,List.set_cons_succ]))
      iterate 2 (refine wgN 34 ?_ rfl (by kernel_rfl) (by kernel_rfl) (by kernel_rfl) (fun _ _ _ h=>h) (by rfl) ?_ (by assumption) ?_;rotate_left;(focus (intro w_ hSw;(try dsimp only at hSw);go_simp;(try (with_reducible rfl))));(try simp only [Nat.reduceAdd,Nat.reduceSub,List.getElem_toArray,List.getElem_cons_zero,List.getElem_cons_succ,Act.put,List.setIfInBounds_toArray,List.set_cons_zero,List.set_cons_succ]))
      refine wpAnyH_done (by kernel_rfl) ?_ _
      refine NoPanic.normal ?_
      all_goals (
       go_wp2
       go_roundw
       case rel=>exact ⟨j+1,by omega,by go_num,all_range_succ HA.out (by rw [itGood_z HJ0.out HX.out];simp [hnok,hck]),hb.trans ((hbW.trans (Below.mono (by first|exact hb2|exact (Below.refl _ _).drew.trans hb2|exact below_drewN hb2 _|exact (below_drewN (Below.refl _ _) _).trans hb2|exact bel) hq2)).mono hzr)⟩
       case measure=>simp [intOf];omega)
     ·obtain ⟨K,hK⟩:∃ K,j=K+1:=⟨j - 1,by omega⟩;obtain ⟨hkq,adq,hade,habq,hq0,hq1_,hq2_,hq3_,hssq,hnmq⟩:=hSr.at_ (k:=K) (by omega)
      have hKn:K<n:=by omega
      have HK:=Lib.hid hK
      have hwk:IntKind.i64.wrap ((j:Int) - 1)=K:=by rw [show (j:Int) - 1=(K:Int) by omega,IntWalk.i64_in _ (by omega)]
      have hjp:0<j:=by omega
      have hdj:decide (0<j)=true:=by simp [hjp]
      have hkn1:(0:Int)≤(K:Int):=by omega
      have hkn2:(K:Int)<n:=by omega
      clear hK hj0
      have hadq:adq=ad:=by injection hade with h;exact h.symm
      rw [hadq] at hq0
      clear hq1_ hq2_ hq3_ hssq hade habq hadq
      have HXP:=Lib.hid (show P[K]?=some L[K].x by rw [← HP.out];exact plI_at hkq)
      obtain ⟨nq,hnq⟩:∃ a,a=L[K].x.nm:=⟨_,rfl⟩
      rw [← hnq] at hq0 hnmq
      have hpc:=hq0
      have HNQ:=Lib.hid hnq
      clear hq0 hnq
      cases hl1:Op.bytesLess nm.toList nq.toList
      ·cases hl2:(nm.toList==nq.toList)
       ·skip
        have hqn:=fun W=>s_NameOk nm W hnm
        simp only [hnok] at hqn
        have HQN:=hide hqn
        clear hqn
        go_wp2
        have hs0:=hss
        obtain ⟨w0,hw0⟩:∃ W,W=wr:=⟨_,rfl⟩
        have hbW:Below wr.heap.size wr w0:=by rw [hw0];exact Below.refl _ _
        rw [← hw0] at hs0 hc0 hc1 hc2 hc3 ⊢
        rw [← hw0] at hpc
        have hq2:wr.heap.size≤w0.heap.size:=hbW.size
        have hq1:(ad.add (j * 4)).block<w0.heap.size:=by rw [block_of_add];omega
        have hpq2:(ad.add (K * 4)).block<w0.heap.size:=(by rw [block_of_add];omega)
        clear hw0
        have hs0B:=hs0.more (B':=w0.heap.size) (by omega)
        refine wp_region_noPanic ?_
        refine wp_region_held_drew (S:=(fun W=>(∀ p:Addr,p.block<w0.heap.size→W.cell? p=w0.cell? p)∧(∀ p:Addr,p.block<w0.heap.size→W.frozen? p=w0.frozen? p)∧Below w0.heap.size w0 W)) (by kernel_rfl) ?_ (fun hHeld=>?_)
        ·exact (keep_ofP bel)
        change wpAnyH _ _ _ _ _ 34 #[false,false,false,false,false,false,false,false,false,false,false,false,false,false,false,false,false,false,false,false,false,false,false,false,false,false,false,false,false,false,false,false,false,false] _ _
        iterate 5 (refine wgN 34 ?_ rfl (by kernel_rfl) (by kernel_rfl) (by kernel_rfl) (fun _ _ _ h=>h) (by rfl) ?_ (by assumption) ?_;rotate_left;(focus (intro w_ hSw;(try dsimp only at hSw);go_simp;(try (with_reducible rfl))));(try simp only [Nat.reduceAdd,Nat.reduceSub,List.getElem_toArray,List.getElem_cons_zero,List.getElem_cons_succ,Act.put,List.setIfInBounds_toArray,List.set_cons_zero,List.set_cons_succ]))
        refine wpAnyH_ready (rs:=[5]) (by kernel_rfl) (by simp) ?_;refine AllReadyH.cons rfl (fun K hK=>?_) AllReadyH.nil;go_simp
        (refine (unhide HQN _).mono ?_;rintro e w' ⟨rfl,rfl⟩)
        (try (go_wp2_with fail))
        refine hK.out _ _ ?_ (fun hHeld=>?_)
        ·exact (keep_ofP bel)
        clear hK K
        iterate 7 (refine wgN 34 ?_ rfl (by kernel_rfl) (by kernel_rfl) (by kernel_rfl) (fun _ _ _ h=>h) (by rfl) ?_ (by assumption) ?_;rotate_left;(focus (intro w_ hSw;(try dsimp only at hSw);go_simp;(try (with_reducible rfl))));(try simp only [Nat.reduceAdd,Nat.reduceSub,List.getElem_toArray,List.getElem_cons_zero,List.getElem_cons_succ,Act.put,List.setIfInBounds_toArray,List.set_cons_zero,List.set_cons_succ]))
        refine wpAnyH_ready (rs:=[13]) (by kernel_rfl) (by simp) ?_;refine AllReadyH.cons rfl (fun K hK=>?_) AllReadyH.nil;go_simp
        (have hq:=(‹_∧_∧Below _ _ _›).2.2;refine (s_CardOk d f _ _ _ ss _ ?_).mono ?_;exact (hs0B.below hq).more hq.size;rw [hck];rintro e w2 ⟨rfl,hb2⟩)
        (try (go_wp2_with fail))
        refine hK.out _ _ ?_ (fun hHeld=>?_)
        ·exact (keep_ofP bel)
        clear hK K
        iterate 20 (refine wgN 34 ?_ rfl (by kernel_rfl) (by kernel_rfl) (by kernel_rfl) (fun _ _ _ h=>h) (by rfl) ?_ (by assumption) ?_;rotate_left;(focus (intro w_ hSw;(try dsimp only at hSw);go_simp;(try (with_reducible rfl))));(try simp only [Nat.reduceAdd,Nat.reduceSub,List.getElem_toArray,List.getElem_cons_zero,List.getElem_cons_succ,Act.put,List.setIfInBounds_toArray,List.set_cons_zero,List.set_cons_succ]))
        refine wpAnyH_done (by kernel_rfl) ?_ _
        refine NoPanic.normal ?_
        all_goals (
         go_wp2
         go_roundw
         case rel=>exact ⟨j+1,by omega,by go_num,all_range_succ HA.out (by rw [itGood_j HK.out HX.out HXP.out];simp [hnok,hck,nmLe,← HNQ.out,hl1,hl2]),hb.trans ((hbW.trans (Below.mono (by first|exact hb2|exact (Below.refl _ _).drew.trans hb2|exact below_drewN hb2 _|exact (below_drewN (Below.refl _ _) _).trans hb2|exact bel) hq2)).mono hzr)⟩
         case measure=>simp [intOf];omega)
       ·have HF:=Lib.hid (catOk_no (unhide HKP) (by rw [itGood_j HK.out HX.out HXP.out];simp [nmLe,← HNQ.out,hl1,hl2]))
        have hqn:=fun W=>s_NameOk nm W hnm
        simp only [hnok] at hqn
        have HQN:=hide hqn
        clear hqn
        go_wp2
        have hs0:=hss
        obtain ⟨w0,hw0⟩:∃ W,W=wr:=⟨_,rfl⟩
        have hbW:Below wr.heap.size wr w0:=by rw [hw0];exact Below.refl _ _
        rw [← hw0] at hs0 hc0 hc1 hc2 hc3 ⊢
        rw [← hw0] at hpc
        have hq2:wr.heap.size≤w0.heap.size:=hbW.size
        have hq1:(ad.add (j * 4)).block<w0.heap.size:=by rw [block_of_add];omega
        have hpq2:(ad.add (K * 4)).block<w0.heap.size:=(by rw [block_of_add];omega)
        clear hw0
        have hs0B:=hs0.more (B':=w0.heap.size) (by omega)
        refine wp_region_noPanic ?_
        refine wp_region_held_drew (S:=(fun W=>(∀ p:Addr,p.block<w0.heap.size→W.cell? p=w0.cell? p)∧(∀ p:Addr,p.block<w0.heap.size→W.frozen? p=w0.frozen? p)∧Below w0.heap.size w0 W)) (by kernel_rfl) ?_ (fun hHeld=>?_)
        ·exact (keep_ofP bel)
        change wpAnyH _ _ _ _ _ 34 #[false,false,false,false,false,false,false,false,false,false,false,false,false,false,false,false,false,false,false,false,false,false,false,false,false,false,false,false,false,false,false,false,false,false] _ _
        iterate 5 (refine wgN 34 ?_ rfl (by kernel_rfl) (by kernel_rfl) (by kernel_rfl) (fun _ _ _ h=>h) (by rfl) ?_ (by assumption) ?_;rotate_left;(focus (intro w_ hSw;(try dsimp only at hSw);go_simp;(try (with_reducible rfl))));(try simp only [Nat.reduceAdd,Nat.reduceSub,List.getElem_toArray,List.getElem_cons_zero,List.getElem_cons_succ,Act.put,List.setIfInBounds_toArray,List.set_cons_zero,List.set_cons_succ]))
        refine wpAnyH_ready (rs:=[5]) (by kernel_rfl) (by simp) ?_;refine AllReadyH.cons rfl (fun K hK=>?_) AllReadyH.nil;go_simp
        (refine (unhide HQN _).mono ?_;rintro e w' ⟨rfl,rfl⟩)
        (try (go_wp2_with fail))
        refine hK.out _ _ ?_ (fun hHeld=>?_)
        ·exact (keep_ofP bel)
        clear hK K
        iterate 7 (refine wgN 34 ?_ rfl (by kernel_rfl) (by kernel_rfl) (by kernel_rfl) (fun _ _ _ h=>h) (by rfl) ?_ (by assumption) ?_;rotate_left;(focus (intro w_ hSw;(try dsimp only at hSw);go_simp;(try (with_reducible rfl))));(try simp only [Nat.reduceAdd,Nat.reduceSub,List.getElem_toArray,List.getElem_cons_zero,List.getElem_cons_succ,Act.put,List.setIfInBounds_toArray,List.set_cons_zero,List.set_cons_succ]))
        refine wpAnyH_ready (rs:=[13]) (by kernel_rfl) (by simp) ?_;refine AllReadyH.cons rfl (fun K hK=>?_) AllReadyH.nil;go_simp
        (have hq:=(‹_∧_∧Below _ _ _›).2.2;refine (s_CardOk d f _ _ _ ss _ ?_).mono ?_;exact (hs0B.below hq).more hq.size;rw [hck];rintro e w2 ⟨rfl,hb2⟩)
        (try (go_wp2_with fail))
        refine hK.out _ _ ?_ (fun hHeld=>?_)
        ·exact (keep_ofP bel)
        clear hK K
        iterate 20 (refine wgN 34 ?_ rfl (by kernel_rfl) (by kernel_rfl) (by kernel_rfl) (fun _ _ _ h=>h) (by rfl) ?_ (by assumption) ?_;rotate_left;(focus (intro w_ hSw;(try dsimp only at hSw);go_simp;(try (with_reducible rfl))));(try simp only [Nat.reduceAdd,Nat.reduceSub,List.getElem_toArray,List.getElem_cons_zero,List.getElem_cons_succ,Act.put,List.setIfInBounds_toArray,List.set_cons_zero,List.set_cons_succ]))
        refine wpAnyH_done (by kernel_rfl) ?_ _
        refine NoPanic.normal ?_
        all_goals (
         go_wp2
         go_ret
         exact ⟨ret_bool HF.out.symm,hb.trans ((hbW.trans (Below.mono (by first|exact hb2|exact (Below.refl _ _).drew.trans hb2|exact below_drewN hb2 _|exact (below_drewN (Below.refl _ _) _).trans hb2|exact bel) hq2)).mono hzr)⟩)
      ·have HF:=Lib.hid (catOk_no (unhide HKP) (by rw [itGood_j HK.out HX.out HXP.out];simp [nmLe,← HNQ.out,hl1]))
       have hqn:=fun W=>s_NameOk nm W hnm
       simp only [hnok] at hqn
       have HQN:=hide hqn
       clear hqn
       go_wp2
       have hs0:=hss
       obtain ⟨w0,hw0⟩:∃ W,W=wr:=⟨_,rfl⟩
       have hbW:Below wr.heap.size wr w0:=by rw [hw0];exact Below.refl _ _
       rw [← hw0] at hs0 hc0 hc1 hc2 hc3 ⊢
       rw [← hw0] at hpc
       have hq2:wr.heap.size≤w0.heap.size:=hbW.size
       have hq1:(ad.add (j * 4)).block<w0.heap.size:=by rw [block_of_add];omega
       have hpq2:(ad.add (K * 4)).block<w0.heap.size:=(by rw [block_of_add];omega)
       clear hw0
       have hs0B:=hs0.more (B':=w0.heap.size) (by omega)
       refine wp_region_noPanic ?_
       refine wp_region_held_drew (S:=(fun W=>(∀ p:Addr,p.block<w0.heap.size→W.cell? p=w0.cell? p)∧(∀ p:Addr,p.block<w0.heap.size→W.frozen? p=w0.frozen? p)∧Below w0.heap.size w0 W)) (by kernel_rfl) ?_ (fun hHeld=>?_)
       ·exact (keep_ofP bel)
       change wpAnyH _ _ _ _ _ 34 #[false,false,false,false,false,false,false,false,false,false,false,false,false,false,false,false,false,false,false,false,false,false,false,false,false,false,false,false,false,false,false,false,false,false] _ _
       iterate 5 (refine wgN 34 ?_ rfl (by kernel_rfl) (by kernel_rfl) (by kernel_rfl) (fun _ _ _ h=>h) (by rfl) ?_ (by assumption) ?_;rotate_left;(focus (intro w_ hSw;(try dsimp only at hSw);go_simp;(try (with_reducible rfl))));(try simp only [Nat.reduceAdd,Nat.reduceSub,List.getElem_toArray,List.getElem_cons_zero,List.getElem_cons_succ,Act.put,List.setIfInBounds_toArray,List.set_cons_zero,List.set_cons_succ]))
       refine wpAnyH_ready (rs:=[5]) (by kernel_rfl) (by simp) ?_;refine AllReadyH.cons rfl (fun K hK=>?_) AllReadyH.nil;go_simp
       (refine (unhide HQN _).mono ?_;rintro e w' ⟨rfl,rfl⟩)
       (try (go_wp2_with fail))
       refine hK.out _ _ ?_ (fun hHeld=>?_)
       ·exact (keep_ofP bel)
       clear hK K
       iterate 7 (refine wgN 34 ?_ rfl (by kernel_rfl) (by kernel_rfl) (by kernel_rfl) (fun _ _ _ h=>h) (by rfl) ?_ (by assumption) ?_;rotate_left;(focus (intro w_ hSw;(try dsimp only at hSw);go_simp;(try (with_reducible rfl))));(try simp only [Nat.reduceAdd,Nat.reduceSub,List.getElem_toArray,List.getElem_cons_zero,List.getElem_cons_succ,Act.put,List.setIfInBounds_toArray,List.set_cons_zero,List.set_cons_succ]))
       refine wpAnyH_ready (rs:=[13]) (by kernel_rfl) (by simp) ?_;refine AllReadyH.cons rfl (fun K hK=>?_) AllReadyH.nil;go_simp
       (have hq:=(‹_∧_∧Below _ _ _›).2.2;refine (s_CardOk d f _ _ _ ss _ ?_).mono ?_;exact (hs0B.below hq).more hq.size;rw [hck];rintro e w2 ⟨rfl,hb2⟩)
       (try (go_wp2_with fail))
       refine hK.out _ _ ?_ (fun hHeld=>?_)
       ·exact (keep_ofP bel)
       clear hK K
       iterate 20 (refine wgN 34 ?_ rfl (by kernel_rfl) (by kernel_rfl) (by kernel_rfl) (fun _ _ _ h=>h) (by rfl) ?_ (by assumption) ?_;rotate_left;(focus (intro w_ hSw;(try dsimp only at hSw);go_simp;(try (with_reducible rfl))));(try simp only [Nat.reduceAdd,Nat.reduceSub,List.getElem_toArray,List.getElem_cons_zero,List.getElem_cons_succ,Act.put,List.setIfInBounds_toArray,List.set_cons_zero,List.set_cons_succ]))
       refine wpAnyH_done (by kernel_rfl) ?_ _
       refine NoPanic.normal ?_
       all_goals (
        go_wp2
        go_ret
        exact ⟨ret_bool HF.out.symm,hb.trans ((hbW.trans (Below.mono (by first|exact hb2|exact (Below.refl _ _).drew.trans hb2|exact below_drewN hb2 _|exact (below_drewN (Below.refl _ _) _).trans hb2|exact bel) hq2)).mono hzr)⟩)
  ·have hjn:j=n:=by omega
   subst hjn
   have hcat:catOk P=decide (j≤20):=by
    unfold catOk
    rw [HL.out,HA.out];rfl
   have HF:=Lib.hid hcat
   clear hcat
   by_cases h20:j≤20
   ·go_wp2
    go_ret
    exact ⟨ret_bool (by rw [HF.out];simp [h20];try omega),hb⟩
   ·go_wp2
    go_ret
    exact ⟨ret_bool (by rw [HF.out];simp [h20];try omega),hb⟩
end Go.Proofs.YtlimlolciekimaaGreatDoor
