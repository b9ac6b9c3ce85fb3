/- Contracts of the program's and the reference's functions (Item5i). -/
import Derived.Test.YtlimlolciekimaaGreatDoorRows
import Derived.Test.YtlimlolciekimaaGreatDoorQUi
import Derived.Test.YtlimlolciekimaaGreatDoorQUd
namespace Go.Proofs.YtlimlolciekimaaGreatDoor
set_option maxHeartbeats 1600000
open Go.ChangeShapes Go.WideShapes Go.ChangeAt Go.RowKit
set_option linter.unusedVariables false
set_option linter.unusedSimpArgs false
set_option maxRecDepth 10000
theorem wpAnyH_skip {P:Program} {md:Region.Mode} {ops:Array Oper} {Q:Exit→Act→World→Prop} {S:World→Prop} {i:Nat} {oi:Oper} {fuel:Nat} {listed:Array Bool} {a:Act} {w:World} (hi:ops[i]?=some oi)
  (hs:Region.noSelect ops=true) (hf:Region.free md ops listed i=true) (hr:(Region.ready md ops listed).contains i=true)
  (hQ:∀ c a w,Q (.panic c) (a.put oi.dst undef) w→Q (.panic c) a w) (hw:Region.wanted oi (yielded ops a.tmps)=false) (hS:S w)
  (h:wpAnyH P md ops Q S fuel (listed.setIfInBounds i true) (a.put oi.dst undef) w):wpAnyH P md ops Q S (fuel+1) listed a w :=
 wpAnyH_take hi hs hf hr hQ (Or.inr ⟨hw,rfl⟩) hS h
theorem wpAnyH_go {P:Program} {md:Region.Mode} {ops:Array Oper} {Q:Exit→Act→World→Prop} {S:World→Prop} {i:Nat} {oi:Oper} {v:Value} {fuel:Nat} {listed:Array Bool} {a:Act} {w:World} (hi:ops[i]?=some oi)
  (hs:Region.noSelect ops=true) (hf:Region.free md ops listed i=true) (hr:(Region.ready md ops listed).contains i=true)
  (hQ:∀ c a w,Q (.panic c) (a.put oi.dst v) w→Q (.panic c) a w) (hw:Region.wanted oi (yielded ops a.tmps)=true) (hy:∀ w,S w→(execOp a.eval oi).run P w=.ok (.value v) w) (hS:S w)
  (h:wpAnyH P md ops Q S fuel (listed.setIfInBounds i true) (a.put oi.dst v) w):wpAnyH P md ops Q S (fuel+1) listed a w :=
 wpAnyH_take hi hs hf hr hQ (Or.inl ⟨hw,hy⟩) hS h
theorem wsN (N:Nat) {P:Program} {md:Region.Mode} {ops:Array Oper} {Q:Exit→Act→World→Prop} {S:World→Prop} {oi:Oper} {fuel:Nat} {listed:Array Bool} {a:Act} {w:World} (hi:ops[N - (fuel+1)]?=some oi)
  (hs:Region.noSelect ops=true) (hf:Region.free md ops listed (N - (fuel+1))=true) (hr:(Region.ready md ops listed).contains (N - (fuel+1))=true)
  (hQ:∀ c a w,Q (.panic c) (a.put oi.dst undef) w→Q (.panic c) a w) (hw:Region.wanted oi (yielded ops a.tmps)=false) (hS:S w)
  (h:wpAnyH P md ops Q S fuel (listed.setIfInBounds (N - (fuel+1)) true) (a.put oi.dst undef) w):wpAnyH P md ops Q S (fuel+1) listed a w :=
 wpAnyH_skip hi hs hf hr hQ hw hS h
theorem wgN (N:Nat) {P:Program} {md:Region.Mode} {ops:Array Oper} {Q:Exit→Act→World→Prop} {S:World→Prop} {oi:Oper} (v:Value) {fuel:Nat} {listed:Array Bool} {a:Act} {w:World} (hi:ops[N - (fuel+1)]?=some oi)
  (hs:Region.noSelect ops=true) (hf:Region.free md ops listed (N - (fuel+1))=true) (hr:(Region.ready md ops listed).contains (N - (fuel+1))=true)
  (hQ:∀ c a w,Q (.panic c) (a.put oi.dst v) w→Q (.panic c) a w) (hw:Region.wanted oi (yielded ops a.tmps)=true) (hy:∀ w,S w→(execOp a.eval oi).run P w=.ok (.value v) w) (hS:S w)
  (h:wpAnyH P md ops Q S fuel (listed.setIfInBounds (N - (fuel+1)) true) (a.put oi.dst v) w):wpAnyH P md ops Q S (fuel+1) listed a w :=
 wpAnyH_go hi hs hf hr hQ hw hy hS h
theorem itGood_z {P:List PItem} {j:Nat} {x:PItem} (hj:j=0) (h:P[j]?=some x):itGood P j=(nameOk x.nm&&cardOk x.d x.f x.ss):=by subst hj;exact itGood_0 h
theorem itGood_j {P:List PItem} {j k:Nat} {x y:PItem} (hj:j=k+1) (h:P[j]?=some x) (h2:P[k]?=some y):itGood P j=((nameOk x.nm&&cardOk x.d x.f x.ss)&&!nmLe x.nm y.nm):=by subst hj;exact itGood_s h h2
set_option maxHeartbeats 6400000 in
theorem i_CatalogOk (P:List PItem) (B:Nat) (A:Option Addr) (n c:Nat) (L:List RItem) (w:World) (hp:plI L=P) (hS:Items w B A n L) (hB:B≤w.heap.size) :
  Calls Tryz.prog 83 #[.slice A n c] w fun e w'=>e=.returned (.bool (catOk P))∧Below w.heap.size w w':=by
 have hn:=hS.nb
 have hl:P.length=n:=by rw [← hp,plI_len,hS.len]
 have HL:=Lib.hid hl
 have HP:=Lib.hid hp
 clear hl hp
 go_enter Tryz.func83,Tryz.ntmps83
 go_wp2
 go_loopw [3,4,7] (fun x y i wr=>∃ j:Nat,j≤n∧i=.int .i64 j∧Hid ((List.range j).all (itGood P)=true)∧Below w.heap.size w wr) (fun _ _ i _=>n - (intOf i).toNat)
 case atStart=>exact ⟨0,Nat.zero_le _,rfl,by unfold Hid;simp,Below.refl _ _⟩
 case round =>
  obtain ⟨j,hj,rfl,HA,hb⟩:=hrel
  have hzr:=hb.size
  by_cases hlt:j<n
  ·have hSr:=hS.below (hb.mono hB)
   obtain ⟨hk1,ad,rfl,hab,hc0,hc1,hc2,hc3,hss,hnm⟩:=hSr.at_ hlt
   have hx:P[j]?=some L[j].x:=by rw [← HP.out];exact plI_at hk1
   have HX:=Lib.hid hx
   have hkP:j<P.length:=by have:=HL.out;omega
   have HKP:=hide hkP
   clear hx hkP
   obtain ⟨nm,hnme⟩:∃ a,a=L[j].x.nm:=⟨_,rfl⟩
   obtain ⟨d,hde⟩:∃ a,a=L[j].x.d:=⟨_,rfl⟩
   obtain ⟨f,hfe⟩:∃ a,a=L[j].x.f:=⟨_,rfl⟩
   obtain ⟨ss,hse⟩:∃ a,a=L[j].x.ss:=⟨_,rfl⟩
   rw [← hnme] at hc0 hnm;rw [← hde] at hc1;rw [← hfe] at hc2;rw [← hse] at hc3 hss
   have hxx:L[j].x=⟨nm,d,f,ss⟩:=by rw [hnme,hde,hfe,hse]
   rw [hxx] at HX
   generalize L[j].A=A0 at *
   generalize L[j].c=c0 at *
   clear hnme hde hfe hse hxx hk1
   cases hnok:nameOk nm
   ·have HF:=Lib.hid (catOk_no (unhide HKP) (by unfold itGood;rw [HX.out];simp [hnok]))
    have hqn:=fun W=>i_NameOk nm W hnm
    simp only [hnok] at hqn
    have HQN:=hide hqn
    clear hqn
    go_wp2
    have hk0:=blk_new wr (.cells #[.string nm,.int .i64 d,.int .i64 f,.slice A0 ss.length c0] 65)
    have hbW:Below wr.heap.size wr (wr.alloc (.cells #[.string nm,.int .i64 d,.int .i64 f,.slice A0 ss.length c0] 65)):=bel
    have hs0:=hss.alloc (by omega) (.cells #[.string nm,.int .i64 d,.int .i64 f,.slice A0 ss.length c0] 65)
    have hq1:(ad.add (j * 4)).block<wr.heap.size:=by rw [block_of_add];omega
    generalize (wr.alloc (.cells #[.string nm,.int .i64 d,.int .i64 f,.slice A0 ss.length c0] 65))=w0 at *
    obtain ⟨hy0,hy1,hy2,hy3,hyl⟩:=blk4 hk0
    have hq2:wr.heap.size≤w0.heap.size:=hbW.size
    have hs0B:=hs0.more (B':=w0.heap.size) (by omega)
    refine wp_region_noPanic ?_
    refine wp_region_held_drew (S:=(fun W=>(∀ p:Addr,p.block<w0.heap.size→W.cell? p=w0.cell? p)∧(∀ p:Addr,p.block<w0.heap.size→W.frozen? p=w0.frozen? p)∧Below w0.heap.size w0 W)) (by kernel_rfl) ?_ (fun hHeld=>?_)
    ·exact (keep_ofP bel)
    change wpAnyH _ _ _ _ _ 25 #[false,false,false,false,false,false,false,false,false,false,false,false,false,false,false,false,false,false,false,false,false,false,false,false,false] _ _
    iterate 2 (refine wgN 25 ?_ rfl (by kernel_rfl) (by kernel_rfl) (by kernel_rfl) (fun _ _ _ h=>h) (by rfl) ?_ (by assumption) ?_;rotate_left;(focus (intro w_ hSw;(try dsimp only at hSw);go_simp;(try (with_reducible rfl))));(try simp only [Nat.reduceAdd,Nat.reduceSub,List.getElem_toArray,List.getElem_cons_zero,List.getElem_cons_succ,Act.put,List.setIfInBounds_toArray,List.set_cons_zero,List.set_cons_succ]))
    refine wpAnyH_ready (rs:=[2]) (by kernel_rfl) (by simp) ?_;refine AllReadyH.cons rfl (fun K hK=>?_) AllReadyH.nil;go_simp
    (refine (unhide HQN _).mono ?_;rintro e w' ⟨rfl,rfl⟩)
    (try (go_wp2_with fail))
    refine hK.out _ _ ?_ (fun hHeld=>?_)
    ·exact (keep_ofP bel)
    clear hK K
    iterate 2 (refine wgN 25 ?_ rfl (by kernel_rfl) (by kernel_rfl) (by kernel_rfl) (fun _ _ _ h=>h) (by rfl) ?_ (by assumption) ?_;rotate_left;(focus (intro w_ hSw;(try dsimp only at hSw);go_simp;(try (with_reducible rfl))));(try simp only [Nat.reduceAdd,Nat.reduceSub,List.getElem_toArray,List.getElem_cons_zero,List.getElem_cons_succ,Act.put,List.setIfInBounds_toArray,List.set_cons_zero,List.set_cons_succ]))
    iterate 13 (refine wsN 25 rfl (by kernel_rfl) (by kernel_rfl) (by kernel_rfl) (fun _ _ _ h=>h) (by rfl) (by assumption) ?_;(try simp only [Nat.reduceAdd,Nat.reduceSub,List.getElem_toArray,List.getElem_cons_zero,List.getElem_cons_succ,Act.put,List.setIfInBounds_toArray,List.set_cons_zero,List.set_cons_succ]))
    iterate 2 (refine wgN 25 ?_ rfl (by kernel_rfl) (by kernel_rfl) (by kernel_rfl) (fun _ _ _ h=>h) (by rfl) ?_ (by assumption) ?_;rotate_left;(focus (intro w_ hSw;(try dsimp only at hSw);go_simp;(try (with_reducible rfl))));(try simp only [Nat.reduceAdd,Nat.reduceSub,List.getElem_toArray,List.getElem_cons_zero,List.getElem_cons_succ,Act.put,List.setIfInBounds_toArray,List.set_cons_zero,List.set_cons_succ]))
    iterate 4 (refine wsN 25 rfl (by kernel_rfl) (by kernel_rfl) (by kernel_rfl) (fun _ _ _ h=>h) (by rfl) (by assumption) ?_;(try simp only [Nat.reduceAdd,Nat.reduceSub,List.getElem_toArray,List.getElem_cons_zero,List.getElem_cons_succ,Act.put,List.setIfInBounds_toArray,List.set_cons_zero,List.set_cons_succ]))
    iterate 1 (refine wgN 25 ?_ rfl (by kernel_rfl) (by kernel_rfl) (by kernel_rfl) (fun _ _ _ h=>h) (by rfl) ?_ (by assumption) ?_;rotate_left;(focus (intro w_ hSw;(try dsimp only at hSw);go_simp;(try (with_reducible rfl))));(try simp only [Nat.reduceAdd,Nat.reduceSub,List.getElem_toArray,List.getElem_cons_zero,List.getElem_cons_succ,Act.put,List.setIfInBounds_toArray,List.set_cons_zero,List.set_cons_succ]))
    refine wpAnyH_done (by kernel_rfl) ?_ _
    refine NoPanic.normal ?_
    all_goals (
     go_wp2
     go_ret
     exact ⟨ret_bool HF.out.symm,hb.trans ((hbW.trans (Below.mono (by first|exact Below.refl _ _|exact (Below.refl _ _).drew|exact below_drewN (Below.refl _ _) _|exact bel) hq2)).mono hzr)⟩)
   ·cases hck:cardOk d f ss
    ·have HF:=Lib.hid (catOk_no (unhide HKP) (by unfold itGood;rw [HX.out];simp [hck]))
     by_cases hj0:j=0
     ·have hjz:¬0<j:=(by omega);have hdj:decide (0<j)=false:=(by simp [hj0]);have HJ0:=Lib.hid hj0;clear hj0
      have hqn:=fun W=>i_NameOk nm W hnm
      simp only [hnok] at hqn
      have HQN:=hide hqn
      clear hqn
      go_wp2
      have hk0:=blk_new wr (.cells #[.string nm,.int .i64 d,.int .i64 f,.slice A0 ss.length c0] 65)
      have hbW:Below wr.heap.size wr (wr.alloc (.cells #[.string nm,.int .i64 d,.int .i64 f,.slice A0 ss.length c0] 65)):=bel
      have hs0:=hss.alloc (by omega) (.cells #[.string nm,.int .i64 d,.int .i64 f,.slice A0 ss.length c0] 65)
      have hq1:(ad.add (j * 4)).block<wr.heap.size:=by rw [block_of_add];omega
      generalize (wr.alloc (.cells #[.string nm,.int .i64 d,.int .i64 f,.slice A0 ss.length c0] 65))=w0 at *
      obtain ⟨hy0,hy1,hy2,hy3,hyl⟩:=blk4 hk0
      have hq2:wr.heap.size≤w0.heap.size:=hbW.size
      have hs0B:=hs0.more (B':=w0.heap.size) (by omega)
      refine wp_region_noPanic ?_
      refine wp_region_held_drew (S:=(fun W=>(∀ p:Addr,p.block<w0.heap.size→W.cell? p=w0.cell? p)∧(∀ p:Addr,p.block<w0.heap.size→W.frozen? p=w0.frozen? p)∧Below w0.heap.size w0 W)) (by kernel_rfl) ?_ (fun hHeld=>?_)
      ·exact (keep_ofP bel)
      change wpAnyH _ _ _ _ _ 25 #[false,false,false,false,false,false,false,false,false,false,false,false,false,false,false,false,false,false,false,false,false,false,false,false,false] _ _
      iterate 2 (refine wgN 25 ?_ rfl (by kernel_rfl) (by kernel_rfl) (by kernel_rfl) (fun _ _ _ h=>h) (by rfl) ?_ (by assumption) ?_;rotate_left;(focus (intro w_ hSw;(try dsimp only at hSw);go_simp;(try (with_reducible rfl))));(try simp only [Nat.reduceAdd,Nat.reduceSub,List.getElem_toArray,List.getElem_cons_zero,List.getElem_cons_succ,Act.put,List.setIfInBounds_toArray,List.set_cons_zero,List.set_cons_succ]))
      refine wpAnyH_ready (rs:=[2]) (by kernel_rfl) (by simp) ?_;refine AllReadyH.cons rfl (fun K hK=>?_) AllReadyH.nil;go_simp
      (refine (unhide HQN _).mono ?_;rintro e w' ⟨rfl,rfl⟩)
      (try (go_wp2_with fail))
      refine hK.out _ _ ?_ (fun hHeld=>?_)
      ·exact (keep_ofP bel)
      clear hK K
      iterate 5 (refine wgN 25 ?_ rfl (by kernel_rfl) (by kernel_rfl) (by kernel_rfl) (fun _ _ _ h=>h) (by rfl) ?_ (by assumption) ?_;rotate_left;(focus (intro w_ hSw;(try dsimp only at hSw);go_simp;(try (with_reducible rfl))));(try simp only [Nat.reduceAdd,Nat.reduceSub,List.getElem_toArray,List.getElem_cons_zero,List.getElem_cons_succ,Act.put,List.setIfInBounds_toArray,List.set_cons_zero,List.set_cons_succ]))
      iterate 9 (refine wsN 25 rfl (by kernel_rfl) (by kernel_rfl) (by kernel_rfl) (fun _ _ _ h=>h) (by rfl) (by assumption) ?_;(try simp only [Nat.reduceAdd,Nat.reduceSub,List.getElem_toArray,List.getElem_cons_zero,List.getElem_cons_succ,Act.put,List.setIfInBounds_toArray,List.set_cons_zero,List.set_cons_succ]))
      iterate 5 (refine wgN 25 ?_ rfl (by kernel_rfl) (by kernel_rfl) (by kernel_rfl) (fun _ _ _ h=>h) (by rfl) ?_ (by assumption) ?_;rotate_left;(focus (intro w_ hSw;(try dsimp only at hSw);go_simp;(try (with_reducible rfl))));(try simp only [Nat.reduceAdd,Nat.reduceSub,List.getElem_toArray,List.getElem_cons_zero,List.getElem_cons_succ,Act.put,List.setIfInBounds_toArray,List.set_cons_zero,List.set_cons_succ]))
      refine wpAnyH_ready (rs:=[22]) (by kernel_rfl) (by simp) ?_;refine AllReadyH.cons rfl (fun K hK=>?_) AllReadyH.nil;go_simp
      (have hq:=(‹_∧_∧Below _ _ _›).2.2;refine (i_CardOk d f _ _ _ ss _ ?_).mono ?_;exact (hs0B.below hq).more hq.size;rw [hck];rintro e w2 ⟨rfl,hb2⟩)
      (try (go_wp2_with fail))
      refine hK.out _ _ ?_ (fun hHeld=>?_)
      ·exact (keep_ofP bel)
      clear hK K
      iterate 2 (refine wgN 25 ?_ rfl (by kernel_rfl) (by kernel_rfl) (by kernel_rfl) (fun _ _ _ h=>h) (by rfl) ?_ (by assumption) ?_;rotate_left;(focus (intro w_ hSw;(try dsimp only at hSw);go_simp;(try (with_reducible rfl))));(try simp only [Nat.reduceAdd,Nat.reduceSub,List.getElem_toArray,List.getElem_cons_zero,List.getElem_cons_succ,Act.put,List.setIfInBounds_toArray,List.set_cons_zero,List.set_cons_succ]))
      refine wpAnyH_done (by kernel_rfl) ?_ _
      refine NoPanic.normal ?_
      all_goals (
       go_wp2
       go_ret
       exact ⟨ret_bool HF.out.symm,hb.trans ((hbW.trans (Below.mono (by first|exact hb2|exact (Below.refl _ _).drew.trans hb2|exact below_drewN hb2 _|exact (below_drewN (Below.refl _ _) _).trans hb2|exact bel) hq2)).mono hzr)⟩)
     ·obtain ⟨K,hK⟩:∃ K,j=K+1:=⟨j - 1,by omega⟩;obtain ⟨hkq,adq,hade,habq,hq0,hq1_,hq2_,hq3_,hssq,hnmq⟩:=hSr.at_ (k:=K) (by omega)
      have hKn:K<n:=by omega
      have HK:=Lib.hid hK
      have hwk:IntKind.i64.wrap ((j:Int) - 1)=K:=by rw [show (j:Int) - 1=(K:Int) by omega,IntWalk.i64_in _ (by omega)]
      have hjp:0<j:=by omega
      have hdj:decide (0<j)=true:=by simp [hjp]
      have hkn1:(0:Int)≤(K:Int):=by omega
      have hkn2:(K:Int)<n:=by omega
      clear hK hj0
      have hadq:adq=ad:=by injection hade with h;exact h.symm
      rw [hadq] at hq0
      clear hq1_ hq2_ hq3_ hssq hade habq hadq
      have HXP:=Lib.hid (show P[K]?=some L[K].x by rw [← HP.out];exact plI_at hkq)
      obtain ⟨nq,hnq⟩:∃ a,a=L[K].x.nm:=⟨_,rfl⟩
      rw [← hnq] at hq0 hnmq
      have hpc:=hq0
      have HNQ:=Lib.hid hnq
      clear hq0 hnq
      cases hl1:Op.bytesLess nm.toList nq.toList
      ·cases hl2:(nm.toList==nq.toList)
       ·skip
        have hqn:=fun W=>i_NameOk nm W hnm
        simp only [hnok] at hqn
        have HQN:=hide hqn
        clear hqn
        go_wp2
        have hk0:=blk_new wr (.cells #[.string nm,.int .i64 d,.int .i64 f,.slice A0 ss.length c0] 65)
        have hbW:Below wr.heap.size wr (wr.alloc (.cells #[.string nm,.int .i64 d,.int .i64 f,.slice A0 ss.length c0] 65)):=bel
        have hs0:=hss.alloc (by omega) (.cells #[.string nm,.int .i64 d,.int .i64 f,.slice A0 ss.length c0] 65)
        have hq1:(ad.add (j * 4)).block<wr.heap.size:=by rw [block_of_add];omega
        have hpc0:=(World.cell?_alloc_lt wr (.cells #[.string nm,.int .i64 d,.int .i64 f,.slice A0 ss.length c0] 65) (ad.add (K * 4)) (by rw [block_of_add];omega)).trans hpc;have hpq:(ad.add (K * 4)).block<wr.heap.size:=(by rw [block_of_add];omega)
        generalize (wr.alloc (.cells #[.string nm,.int .i64 d,.int .i64 f,.slice A0 ss.length c0] 65))=w0 at *
        obtain ⟨hy0,hy1,hy2,hy3,hyl⟩:=blk4 hk0
        have hq2:wr.heap.size≤w0.heap.size:=hbW.size
        have hpq2:(ad.add (K * 4)).block<w0.heap.size:=by omega
        have hs0B:=hs0.more (B':=w0.heap.size) (by omega)
        refine wp_region_noPanic ?_
        refine wp_region_held_drew (S:=(fun W=>(∀ p:Addr,p.block<w0.heap.size→W.cell? p=w0.cell? p)∧(∀ p:Addr,p.block<w0.heap.size→W.frozen? p=w0.frozen? p)∧Below w0.heap.size w0 W)) (by kernel_rfl) ?_ (fun hHeld=>?_)
        ·exact (keep_ofP bel)
        change wpAnyH _ _ _ _ _ 25 #[false,false,false,false,false,false,false,false,false,false,false,false,false,false,false,false,false,false,false,false,false,false,false,false,false] _ _
        iterate 2 (refine wgN 25 ?_ rfl (by kernel_rfl) (by kernel_rfl) (by kernel_rfl) (fun _ _ _ h=>h) (by rfl) ?_ (by assumption) ?_;rotate_left;(focus (intro w_ hSw;(try dsimp only at hSw);go_simp;(try (with_reducible rfl))));(try simp only [Nat.reduceAdd,Nat.reduceSub,List.getElem_toArray,List.getElem_cons_zero,List.getElem_cons_succ,Act.put,List.setIfInBounds_toArray,List.set_cons_zero,List.set_cons_succ]))
        refine wpAnyH_ready (rs:=[2]) (by kernel_rfl) (by simp) ?_;refine AllReadyH.cons rfl (fun K hK=>?_) AllReadyH.nil;go_simp
        (refine (unhide HQN _).mono ?_;rintro e w' ⟨rfl,rfl⟩)
        (try (go_wp2_with fail))
        refine hK.out _ _ ?_ (fun hHeld=>?_)
        ·exact (keep_ofP bel)
        clear hK K
        iterate 19 (refine wgN 25 ?_ rfl (by kernel_rfl) (by kernel_rfl) (by kernel_rfl) (fun _ _ _ h=>h) (by rfl) ?_ (by assumption) ?_;rotate_left;(focus (intro w_ hSw;(try dsimp only at hSw);go_simp;(try (with_reducible rfl))));(try simp only [Nat.reduceAdd,Nat.reduceSub,List.getElem_toArray,List.getElem_cons_zero,List.getElem_cons_succ,Act.put,List.setIfInBounds_toArray,List.set_cons_zero,List.set_cons_succ]))
        refine wpAnyH_ready (rs:=[22]) (by kernel_rfl) (by simp) ?_;refine AllReadyH.cons rfl (fun K hK=>?_) AllReadyH.nil;go_simp
        (have hq:=(‹_∧_∧Below _ _ _›).2.2;refine (i_CardOk d f _ _ _ ss _ ?_).mono ?_;exact (hs0B.below hq).more hq.size;rw [hck];rintro e w2 ⟨rfl,hb2⟩)
        (try (go_wp2_with fail))
        refine hK.out _ _ ?_ (fun hHeld=>?_)
        ·exact (keep_ofP bel)
        clear hK K
        iterate 2 (refine wgN 25 ?_ rfl (by kernel_rfl) (by kernel_rfl) (by kernel_rfl) (fun _ _ _ h=>h) (by rfl) ?_ (by assumption) ?_;rotate_left;(focus (intro w_ hSw;(try dsimp only at hSw);go_simp;(try (with_reducible rfl))));(try simp only [Nat.reduceAdd,Nat.reduceSub,List.getElem_toArray,List.getElem_cons_zero,List.getElem_cons_succ,Act.put,List.setIfInBounds_toArray,List.set_cons_zero,List.set_cons_succ]))
        refine wpAnyH_done (by kernel_rfl) ?_ _
        refine NoPanic.normal ?_
        all_goals (
         go_wp2
         go_ret
         exact ⟨ret_bool HF.out.symm,hb.trans ((hbW.trans (Below.mono (by first|exact hb2|exact (Below.refl _ _).drew.trans hb2|exact below_drewN hb2 _|exact (below_drewN (Below.refl _ _) _).trans hb2|exact bel) hq2)).mono hzr)⟩)
       ·skip
        have hqn:=fun W=>i_NameOk nm W hnm
        simp only [hnok] at hqn
        have HQN:=hide hqn
        clear hqn
        go_wp2
        have hk0:=blk_new wr (.cells #[.string nm,.int .i64 d,.int .i64 f,.slice A0 ss.length c0] 65)
        have hbW:Below wr.heap.size wr (wr.alloc (.cells #[.string nm,.int .i64 d,.int .i64 f,.slice A0 ss.length c0] 65)):=bel
        have hs0:=hss.alloc (by omega) (.cells #[.string nm,.int .i64 d,.int .i64 f,.slice A0 ss.length c0] 65)
        have hq1:(ad.add (j * 4)).block<wr.heap.size:=by rw [block_of_add];omega
        have hpc0:=(World.cell?_alloc_lt wr (.cells #[.string nm,.int .i64 d,.int .i64 f,.slice A0 ss.length c0] 65) (ad.add (K * 4)) (by rw [block_of_add];omega)).trans hpc;have hpq:(ad.add (K * 4)).block<wr.heap.size:=(by rw [block_of_add];omega)
        generalize (wr.alloc (.cells #[.string nm,.int .i64 d,.int .i64 f,.slice A0 ss.length c0] 65))=w0 at *
        obtain ⟨hy0,hy1,hy2,hy3,hyl⟩:=blk4 hk0
        have hq2:wr.heap.size≤w0.heap.size:=hbW.size
        have hpq2:(ad.add (K * 4)).block<w0.heap.size:=by omega
        have hs0B:=hs0.more (B':=w0.heap.size) (by omega)
        refine wp_region_noPanic ?_
        refine wp_region_held_drew (S:=(fun W=>(∀ p:Addr,p.block<w0.heap.size→W.cell? p=w0.cell? p)∧(∀ p:Addr,p.block<w0.heap.size→W.frozen? p=w0.frozen? p)∧Below w0.heap.size w0 W)) (by kernel_rfl) ?_ (fun hHeld=>?_)
        ·exact (keep_ofP bel)
        change wpAnyH _ _ _ _ _ 25 #[false,false,false,false,false,false,false,false,false,false,false,false,false,false,false,false,false,false,false,false,false,false,false,false,false] _ _
        iterate 2 (refine wgN 25 ?_ rfl (by kernel_rfl) (by kernel_rfl) (by kernel_rfl) (fun _ _ _ h=>h) (by rfl) ?_ (by assumption) ?_;rotate_left;(focus (intro w_ hSw;(try dsimp only at hSw);go_simp;(try (with_reducible rfl))));(try simp only [Nat.reduceAdd,Nat.reduceSub,List.getElem_toArray,List.getElem_cons_zero,List.getElem_cons_succ,Act.put,List.setIfInBounds_toArray,List.set_cons_zero,List.set_cons_succ]))
        refine wpAnyH_ready (rs:=[2]) (by kernel_rfl) (by simp) ?_;refine AllReadyH.cons rfl (fun K hK=>?_) AllReadyH.nil;go_simp
        (refine (unhide HQN _).mono ?_;rintro e w' ⟨rfl,rfl⟩)
        (try (go_wp2_with fail))
        refine hK.out _ _ ?_ (fun hHeld=>?_)
        ·exact (keep_ofP bel)
        clear hK K
        iterate 17 (refine wgN 25 ?_ rfl (by kernel_rfl) (by kernel_rfl) (by kernel_rfl) (fun _ _ _ h=>h) (by rfl) ?_ (by assumption) ?_;rotate_left;(focus (intro w_ hSw;(try dsimp only at hSw);go_simp;(try (with_reducible rfl))));(try simp only [Nat.reduceAdd,Nat.reduceSub,List.getElem_toArray,List.getElem_cons_zero,List.getElem_cons_succ,Act.put,List.setIfInBounds_toArray,List.set_cons_zero,List.set_cons_succ]))
        iterate 4 (refine wsN 25 rfl (by kernel_rfl) (by kernel_rfl) (by kernel_rfl) (fun _ _ _ h=>h) (by rfl) (by assumption) ?_;(try simp only [Nat.reduceAdd,Nat.reduceSub,List.getElem_toArray,List.getElem_cons_zero,List.getElem_cons_succ,Act.put,List.setIfInBounds_toArray,List.set_cons_zero,List.set_cons_succ]))
        iterate 1 (refine wgN 25 ?_ rfl (by kernel_rfl) (by kernel_rfl) (by kernel_rfl) (fun _ _ _ h=>h) (by rfl) ?_ (by assumption) ?_;rotate_left;(focus (intro w_ hSw;(try dsimp only at hSw);go_simp;(try (with_reducible rfl))));(try simp only [Nat.reduceAdd,Nat.reduceSub,List.getElem_toArray,List.getElem_cons_zero,List.getElem_cons_succ,Act.put,List.setIfInBounds_toArray,List.set_cons_zero,List.set_cons_succ]))
        refine wpAnyH_done (by kernel_rfl) ?_ _
        refine NoPanic.normal ?_
        all_goals (
         go_wp2
         go_ret
         exact ⟨ret_bool HF.out.symm,hb.trans ((hbW.trans (Below.mono (by first|exact Below.refl _ _|exact (Below.refl _ _).drew|exact below_drewN (Below.refl _ _) _|exact bel) hq2)).mono hzr)⟩)
      ·skip
       have hqn:=fun W=>i_NameOk nm W hnm
       simp only [hnok] at hqn
       have HQN:=hide hqn
       clear hqn
       go_wp2
       have hk0:=blk_new wr (.cells #[.string nm,.int .i64 d,.int .i64 f,.slice A0 ss.length c0] 65)
       have hbW:Below wr.heap.size wr (wr.alloc (.cells #[.string nm,.int .i64 d,.int .i64 f,.slice A0 ss.length c0] 65)):=bel
       have hs0:=hss.alloc (by omega) (.cells #[.string nm,.int .i64 d,.int .i64 f,.slice A0 ss.length c0] 65)
       have hq1:(ad.add (j * 4)).block<wr.heap.size:=by rw [block_of_add];omega
       have hpc0:=(World.cell?_alloc_lt wr (.cells #[.string nm,.int .i64 d,.int .i64 f,.slice A0 ss.length c0] 65) (ad.add (K * 4)) (by rw [block_of_add];omega)).trans hpc;have hpq:(ad.add (K * 4)).block<wr.heap.size:=(by rw [block_of_add];omega)
       generalize (wr.alloc (.cells #[.string nm,.int .i64 d,.int .i64 f,.slice A0 ss.length c0] 65))=w0 at *
       obtain ⟨hy0,hy1,hy2,hy3,hyl⟩:=blk4 hk0
       have hq2:wr.heap.size≤w0.heap.size:=hbW.size
       have hpq2:(ad.add (K * 4)).block<w0.heap.size:=by omega
       have hs0B:=hs0.more (B':=w0.heap.size) (by omega)
       refine wp_region_noPanic ?_
       refine wp_region_held_drew (S:=(fun W=>(∀ p:Addr,p.block<w0.heap.size→W.cell? p=w0.cell? p)∧(∀ p:Addr,p.block<w0.heap.size→W.frozen? p=w0.frozen? p)∧Below w0.heap.size w0 W)) (by kernel_rfl) ?_ (fun hHeld=>?_)
       ·exact (keep_ofP bel)
       change wpAnyH _ _ _ _ _ 25 #[false,false,false,false,false,false,false,false,false,false,false,false,false,false,false,false,false,false,false,false,false,false,false,false,false] _ _
       iterate 2 (refine wgN 25 ?_ rfl (by kernel_rfl) (by kernel_rfl) (by kernel_rfl) (fun _ _ _ h=>h) (by rfl) ?_ (by assumption) ?_;rotate_left;(focus (intro w_ hSw;(try dsimp only at hSw);go_simp;(try (with_reducible rfl))));(try simp only [Nat.reduceAdd,Nat.reduceSub,List.getElem_toArray,List.getElem_cons_zero,List.getElem_cons_succ,Act.put,List.setIfInBounds_toArray,List.set_cons_zero,List.set_cons_succ]))
       refine wpAnyH_ready (rs:=[2]) (by kernel_rfl) (by simp) ?_;refine AllReadyH.cons rfl (fun K hK=>?_) AllReadyH.nil;go_simp
       (refine (unhide HQN _).mono ?_;rintro e w' ⟨rfl,rfl⟩)
       (try (go_wp2_with fail))
       refine hK.out _ _ ?_ (fun hHeld=>?_)
       ·exact (keep_ofP bel)
       clear hK K
       iterate 17 (refine wgN 25 ?_ rfl (by kernel_rfl) (by kernel_rfl) (by kernel_rfl) (fun _ _ _ h=>h) (by rfl) ?_ (by assumption) ?_;rotate_left;(focus (intro w_ hSw;(try dsimp only at hSw);go_simp;(try (with_reducible rfl))));(try simp only [Nat.reduceAdd,Nat.reduceSub,List.getElem_toArray,List.getElem_cons_zero,List.getElem_cons_succ,Act.put,List.setIfInBounds_toArray,List.set_cons_zero,List.set_cons_succ]))
       iterate 4 (refine wsN 25 rfl (by kernel_rfl) (by kernel_rfl) (by kernel_rfl) (fun _ _ _ h=>h) (by rfl) (by assumption) ?_;(try simp only [Nat.reduceAdd,Nat.reduceSub,List.getElem_toArray,List.getElem_cons_zero,List.getElem_cons_succ,Act.put,List.setIfInBounds_toArray,List.set_cons_zero,List.set_cons_succ]))
       iterate 1 (refine wgN 25 ?_ rfl (by kernel_rfl) (by kernel_rfl) (by kernel_rfl) (fun _ _ _ h=>h) (by rfl) ?_ (by assumption) ?_;rotate_left;(focus (intro w_ hSw;(try dsimp only at hSw);go_simp;(try (with_reducible rfl))));(try simp only [Nat.reduceAdd,Nat.reduceSub,List.getElem_toArray,List.getElem_cons_zero,List.getElem_cons_succ,Act.put,List.setIfInBounds_toArray,List.set_cons_zero,List.set_cons_succ]))
       refine wpAnyH_done (by kernel_rfl) ?_ _
       refine NoPanic.normal ?_
       all_goals (
        go_wp2
        go_ret
        exact ⟨ret_bool HF.out.symm,hb.trans ((hbW.trans (Below.mono (by first|exact Below.refl _ _|exact (Below.refl _ _).drew|exact below_drewN (Below.refl _ _) _|exact bel) hq2)).mono hzr)⟩)
    ·by_cases hj0:j=0
     ·have hjz:¬0<j:=(by omega);have hdj:decide (0<j)=false:=(by simp [hj0]);have HJ0:=Lib.hid hj0;clear hj0
      have hqn:=fun W=>i_NameOk nm W hnm
      simp only [hnok] at hqn
      have HQN:=hide hqn
      clear hqn
      go_wp2
      have hk0:=blk_new wr (.cells #[.string nm,.int .i64 d,.int .i64 f,.slice A0 ss.length c0] 65)
      have hbW:Below wr.heap.size wr (wr.alloc (.cells #[.string nm,.int .i64 d,.int .i64 f,.slice A0 ss.length c0] 65)):=bel
      have hs0:=hss.alloc (by omega) (.cells #[.string nm,.int .i64 d,.int .i64 f,.slice A0 ss.length c0] 65)
      have hq1:(ad.add (j * 4)).block<wr.heap.size:=by rw [block_of_add];omega
      generalize (wr.alloc (.cells #[.string nm,.int .i64 d,.int .i64 f,.slice A0 ss.length c0] 65))=w0 at *
      obtain ⟨hy0,hy1,hy2,hy3,hyl⟩:=blk4 hk0
      have hq2:wr.heap.size≤w0.heap.size:=hbW.size
      have hs0B:=hs0.more (B':=w0.heap.size) (by omega)
      refine wp_region_noPanic ?_
      refine wp_region_held_drew (S:=(fun W=>(∀ p:Addr,p.block<w0.heap.size→W.cell? p=w0.cell? p)∧(∀ p:Addr,p.block<w0.heap.size→W.frozen? p=w0.frozen? p)∧Below w0.heap.size w0 W)) (by kernel_rfl) ?_ (fun hHeld=>?_)
      ·exact (keep_ofP bel)
      change wpAnyH _ _ _ _ _ 25 #[false,false,false,false,false,false,false,false,false,false,false,false,false,false,false,false,false,false,false,false,false,false,false,false,false] _ _
      iterate 2 (refine wgN 25 ?_ rfl (by kernel_rfl) (by kernel_rfl) (by kernel_rfl) (fun _ _ _ h=>h) (by rfl) ?_ (by assumption) ?_;rotate_left;(focus (intro w_ hSw;(try dsimp only at hSw);go_simp;(try (with_reducible rfl))));(try simp only [Nat.reduceAdd,Nat.reduceSub,List.getElem_toArray,List.getElem_cons_zero,List.getElem_cons_succ,Act.put,List.setIfInBounds_toArray,List.set_cons_zero,List.set_cons_succ]))
      refine wpAnyH_ready (rs:=[2]) (by kernel_rfl) (by simp) ?_;refine AllReadyH.cons rfl (fun K hK=>?_) AllReadyH.nil;go_simp
      (refine (unhide HQN _).mono ?_;rintro e w' ⟨rfl,rfl⟩)
      (try (go_wp2_with fail))
      refine hK.out _ _ ?_ (fun hHeld=>?_)
      ·exact (keep_ofP bel)
      clear hK K
      iterate 5 (refine wgN 25 ?_ rfl (by kernel_rfl) (by kernel_rfl) (by kernel_rfl) (fun _ _ _ h=>h) (by rfl) ?_ (by assumption) ?_;rotate_left;(focus (intro w_ hSw;(try dsimp only at hSw);go_simp;(try (with_reducible rfl))));(try simp only [Nat.reduceAdd,Nat.reduceSub,List.getElem_toArray,List.getElem_cons_zero,List.getElem_cons_succ,Act.put,List.setIfInBounds_toArray,List.set_cons_zero,List.set_cons_succ]))
      iterate 9 (refine wsN 25 rfl (by kernel_rfl) (by kernel_rfl) (by kernel_rfl) (fun _ _ _ h=>h) (by rfl) (by assumption) ?_;(try simp only [Nat.reduceAdd,Nat.reduceSub,List.getElem_toArray,List.getElem_cons_zero,List.getElem_cons_succ,Act.put,List.setIfInBounds_toArray,List.set_cons_zero,List.set_cons_succ]))
      iterate 5 (refine wgN 25 ?_ rfl (by kernel_rfl) (by kernel_rfl) (by kernel_rfl) (fun _ _ _ h=>h) (by rfl) ?_ (by assumption) ?_;rotate_left;(focus (intro w_ hSw;(try dsimp only at hSw);go_simp;(try (with_reducible rfl))));(try simp only [Nat.reduceAdd,Nat.reduceSub,List.getElem_toArray,List.getElem_cons_zero,List.getElem_cons_succ,Act.put,List.setIfInBounds_toArray,List.set_cons_zero,List.set_cons_succ]))
      refine wpAnyH_ready (rs:=[22]) (by kernel_rfl) (by simp) ?_;refine AllReadyH.cons rfl (fun K hK=>?_) AllReadyH.nil;go_simp
      (have hq:=(‹_∧_∧Below _ _ _›).2.2;refine (i_CardOk d f _ _ _ ss _ ?_).mono ?_;exact (hs0B.below hq).more hq.size;rw [hck];rintro e w2 ⟨rfl,hb2⟩)
      (try (go_wp2_with fail))
      refine hK.out _ _ ?_ (fun hHeld=>?_)
      ·exact (keep_ofP bel)
      clear hK K
      iterate 2 (refine wgN 25 ?_ rfl (by kernel_rfl) (by kernel_rfl) (by kernel_rfl) (fun _ _ _ h=>h) (by rfl) ?_ (by assumption) ?_;rotate_left;(focus (intro w_ hSw;(try dsimp only at hSw);go_simp;(try (with_reducible rfl))));(try simp only [Nat.reduceAdd,Nat.reduceSub,List.getElem_toArray,List.getElem_cons_zero,List.getElem_cons_succ,Act.put,List.setIfInBounds_toArray,List.set_cons_zero,List.set_cons_succ]))
      refine wpAnyH_done (by kernel_rfl) ?_ _
      refine NoPanic.normal ?_
      all_goals (
       go_wp2
       go_roundw
       case rel=>exact ⟨j+1,by omega,by go_num,all_range_succ HA.out (by rw [itGood_z HJ0.out HX.out];simp [hnok,hck]),hb.trans ((hbW.trans (Below.mono (by first|exact hb2|exact (Below.refl _ _).drew.trans hb2|exact below_drewN hb2 _|exact (below_drewN (Below.refl _ _) _).trans hb2|exact bel) hq2)).mono hzr)⟩
       case measure=>simp [intOf];omega)
     ·obtain ⟨K,hK⟩:∃ K,j=K+1:=⟨j - 1,by omega⟩;obtain ⟨hkq,adq,hade,habq,hq0,hq1_,hq2_,hq3_,hssq,hnmq⟩:=hSr.at_ (k:=K) (by omega)
      have hKn:K<n:=by omega
      have HK:=Lib.hid hK
      have hwk:IntKind.i64.wrap ((j:Int) - 1)=K:=by rw [show (j:Int) - 1=(K:Int) by omega,IntWalk.i64_in _ (by omega)]
      have hjp:0<j:=by omega
      have hdj:decide (0<j)=true:=by simp [hjp]
      have hkn1:(0:Int)≤(K:Int):=by omega
      have hkn2:(K:Int)<n:=by omega
      clear hK hj0
      have hadq:adq=ad:=by injection hade with h;exact h.symm
      rw [hadq] at hq0
      clear hq1_ hq2_ hq3_ hssq hade habq hadq
      have HXP:=Lib.hid (show P[K]?=some L[K].x by rw [← HP.out];exact plI_at hkq)
      obtain ⟨nq,hnq⟩:∃ a,a=L[K].x.nm:=⟨_,rfl⟩
      rw [← hnq] at hq0 hnmq
      have hpc:=hq0
      have HNQ:=Lib.hid hnq
      clear hq0 hnq
      cases hl1:Op.bytesLess nm.toList nq.toList
      ·cases hl2:(nm.toList==nq.toList)
       ·skip
        have hqn:=fun W=>i_NameOk nm W hnm
        simp only [hnok] at hqn
        have HQN:=hide hqn
        clear hqn
        go_wp2
        have hk0:=blk_new wr (.cells #[.string nm,.int .i64 d,.int .i64 f,.slice A0 ss.length c0] 65)
        have hbW:Below wr.heap.size wr (wr.alloc (.cells #[.string nm,.int .i64 d,.int .i64 f,.slice A0 ss.length c0] 65)):=bel
        have hs0:=hss.alloc (by omega) (.cells #[.string nm,.int .i64 d,.int .i64 f,.slice A0 ss.length c0] 65)
        have hq1:(ad.add (j * 4)).block<wr.heap.size:=by rw [block_of_add];omega
        have hpc0:=(World.cell?_alloc_lt wr (.cells #[.string nm,.int .i64 d,.int .i64 f,.slice A0 ss.length c0] 65) (ad.add (K * 4)) (by rw [block_of_add];omega)).trans hpc;have hpq:(ad.add (K * 4)).block<wr.heap.size:=(by rw [block_of_add];omega)
        generalize (wr.alloc (.cells #[.string nm,.int .i64 d,.int .i64 f,.slice A0 ss.length c0] 65))=w0 at *
        obtain ⟨hy0,hy1,hy2,hy3,hyl⟩:=blk4 hk0
        have hq2:wr.heap.size≤w0.heap.size:=hbW.size
        have hpq2:(ad.add (K * 4)).block<w0.heap.size:=by omega
        have hs0B:=hs0.more (B':=w0.heap.size) (by omega)
        refine wp_region_noPanic ?_
        refine wp_region_held_drew (S:=(fun W=>(∀ p:Addr,p.block<w0.heap.size→W.cell? p=w0.cell? p)∧(∀ p:Addr,p.block<w0.heap.size→W.frozen? p=w0.frozen? p)∧Below w0.heap.size w0 W)) (by kernel_rfl) ?_ (fun hHeld=>?_)
        ·exact (keep_ofP bel)
        change wpAnyH _ _ _ _ _ 25 #[false,false,false,false,false,false,false,false,false,false,false,false,false,false,false,false,false,false,false,false,false,false,false,false,false] _ _
        iterate 2 (refine wgN 25 ?_ rfl (by kernel_rfl) (by kernel_rfl) (by kernel_rfl) (fun _ _ _ h=>h) (by rfl) ?_ (by assumption) ?_;rotate_left;(focus (intro w_ hSw;(try dsimp only at hSw);go_simp;(try (with_reducible rfl))));(try simp only [Nat.reduceAdd,Nat.reduceSub,List.getElem_toArray,List.getElem_cons_zero,List.getElem_cons_succ,Act.put,List.setIfInBounds_toArray,List.set_cons_zero,List.set_cons_succ]))
        refine wpAnyH_ready (rs:=[2]) (by kernel_rfl) (by simp) ?_;refine AllReadyH.cons rfl (fun K hK=>?_) AllReadyH.nil;go_simp
        (refine (unhide HQN _).mono ?_;rintro e w' ⟨rfl,rfl⟩)
        (try (go_wp2_with fail))
        refine hK.out _ _ ?_ (fun hHeld=>?_)
        ·exact (keep_ofP bel)
        clear hK K
        iterate 19 (refine wgN 25 ?_ rfl (by kernel_rfl) (by kernel_rfl) (by kernel_rfl) (fun _ _ _ h=>h) (by rfl) ?_ (by assumption) ?_;rotate_left;(focus (intro w_ hSw;(try dsimp only at hSw);go_simp;(try (with_reducible rfl))));(try simp only [Nat.reduceAdd,Nat.reduceSub,List.getElem_toArray,List.getElem_cons_zero,List.getElem_cons_succ,Act.put,List.setIfInBounds_toArray,List.set_cons_zero,List.set_cons_succ]))
        refine wpAnyH_ready (rs:=[22]) (by kernel_rfl) (by simp) ?_;refine AllReadyH.cons rfl (fun K hK=>?_) AllReadyH.nil;go_simp
        (have hq:=(‹_∧_∧Below _ _ _›).2.2;refine (i_CardOk d f _ _ _ ss _ ?_).mono ?_;exact (hs0B.below hq).more hq.size;rw [hck];rintro e w2 ⟨rfl,hb2⟩)
        (try (go_wp2_with fail))
        refine hK.out _ _ ?_ (fun hHeld=>?_)
        ·exact (keep_ofP bel)
        clear hK K
        iterate 2 (refine wgN 25 ?_ rfl (by kernel_rfl) (by kernel_rfl) (by kernel_rfl) (fun _ _ _ h=>h) (by rfl) ?_ (by assumption) ?_;rotate_left;(focus (intro w_ hSw;(try dsimp only at hSw);go_simp;(try (with_reducible rfl))));(try simp only [Nat.reduceAdd,Nat.reduceSub,List.getElem_toArray,List.getElem_cons_zero,List.getElem_cons_succ,Act.put,List.setIfInBounds_toArray,List.set_cons_zero,List.set_cons_succ]))
        refine wpAnyH_done (by kernel_rfl) ?_ _
        refine NoPanic.normal ?_
        all_goals (
         go_wp2
         go_roundw
         case rel=>exact ⟨j+1,by omega,by go_num,all_range_succ HA.out (by rw [itGood_j HK.out HX.out HXP.out];simp [hnok,hck,nmLe,← HNQ.out,hl1,hl2]),hb.trans ((hbW.trans (Below.mono (by first|exact hb2|exact (Below.refl _ _).drew.trans hb2|exact below_drewN hb2 _|exact (below_drewN (Below.refl _ _) _).trans hb2|exact bel) hq2)).mono hzr)⟩
         case measure=>simp [intOf];omega)
       ·have HF:=Lib.hid (catOk_no (unhide HKP) (by rw [itGood_j HK.out HX.out HXP.out];simp [nmLe,← HNQ.out,hl1,hl2]))
        have hqn:=fun W=>i_NameOk nm W hnm
        simp only [hnok] at hqn
        have HQN:=hide hqn
        clear hqn
        go_wp2
        have hk0:=blk_new wr (.cells #[.string nm,.int .i64 d,.int .i64 f,.slice A0 ss.length c0] 65)
        have hbW:Below wr.heap.size wr (wr.alloc (.cells #[.string nm,.int .i64 d,.int .i64 f,.slice A0 ss.length c0] 65)):=bel
        have hs0:=hss.alloc (by omega) (.cells #[.string nm,.int .i64 d,.int .i64 f,.slice A0 ss.length c0] 65)
        have hq1:(ad.add (j * 4)).block<wr.heap.size:=by rw [block_of_add];omega
        have hpc0:=(World.cell?_alloc_lt wr (.cells #[.string nm,.int .i64 d,.int .i64 f,.slice A0 ss.length c0] 65) (ad.add (K * 4)) (by rw [block_of_add];omega)).trans hpc;have hpq:(ad.add (K * 4)).block<wr.heap.size:=(by rw [block_of_add];omega)
        generalize (wr.alloc (.cells #[.string nm,.int .i64 d,.int .i64 f,.slice A0 ss.length c0] 65))=w0 at *
        obtain ⟨hy0,hy1,hy2,hy3,hyl⟩:=blk4 hk0
        have hq2:wr.heap.size≤w0.heap.size:=hbW.size
        have hpq2:(ad.add (K * 4)).block<w0.heap.size:=by omega
        have hs0B:=hs0.more (B':=w0.heap.size) (by omega)
        refine wp_region_noPanic ?_
        refine wp_region_held_drew (S:=(fun W=>(∀ p:Addr,p.block<w0.heap.size→W.cell? p=w0.cell? p)∧(∀ p:Addr,p.block<w0.heap.size→W.frozen? p=w0.frozen? p)∧Below w0.heap.size w0 W)) (by kernel_rfl) ?_ (fun hHeld=>?_)
        ·exact (keep_ofP bel)
        change wpAnyH _ _ _ _ _ 25 #[false,false,false,false,false,false,false,false,false,false,false,false,false,false,false,false,false,false,false,false,false,false,false,false,false] _ _
        iterate 2 (refine wgN 25 ?_ rfl (by kernel_rfl) (by kernel_rfl) (by kernel_rfl) (fun _ _ _ h=>h) (by rfl) ?_ (by assumption) ?_;rotate_left;(focus (intro w_ hSw;(try dsimp only at hSw);go_simp;(try (with_reducible rfl))));(try simp only [Nat.reduceAdd,Nat.reduceSub,List.getElem_toArray,List.getElem_cons_zero,List.getElem_cons_succ,Act.put,List.setIfInBounds_toArray,List.set_cons_zero,List.set_cons_succ]))
        refine wpAnyH_ready (rs:=[2]) (by kernel_rfl) (by simp) ?_;refine AllReadyH.cons rfl (fun K hK=>?_) AllReadyH.nil;go_simp
        (refine (unhide HQN _).mono ?_;rintro e w' ⟨rfl,rfl⟩)
        (try (go_wp2_with fail))
        refine hK.out _ _ ?_ (fun hHeld=>?_)
        ·exact (keep_ofP bel)
        clear hK K
        iterate 17 (refine wgN 25 ?_ rfl (by kernel_rfl) (by kernel_rfl) (by kernel_rfl) (fun _ _ _ h=>h) (by rfl) ?_ (by assumption) ?_;rotate_left;(focus (intro w_ hSw;(try dsimp only at hSw);go_simp;(try (with_reducible rfl))));(try simp only [Nat.reduceAdd,Nat.reduceSub,List.getElem_toArray,List.getElem_cons_zero,List.getElem_cons_succ,Act.put,List.setIfInBounds_toArray,List.set_cons_zero,List.set_cons_succ]))
        iterate 4 (refine wsN 25 rfl (by kernel_rfl) (by kernel_rfl) (by kernel_rfl) (fun _ _ _ h=>h) (by rfl) (by assumption) ?_;(try simp only [Nat.reduceAdd,Nat.reduceSub,List.getElem_toArray,List.getElem_cons_zero,List.getElem_cons_succ,Act.put,List.setIfInBounds_toArray,List.set_cons_zero,List.set_cons_succ]))
        iterate 1 (refine wgN 25 ?_ rfl (by kernel_rfl) (by kernel_rfl) (by kernel_rfl) (fun _ _ _ h=>h) (by rfl) ?_ (by assumption) ?_;rotate_left;(focus (intro w_ hSw;(try dsimp only at hSw);go_simp;(try (with_reducible rfl))));(try simp only [Nat.reduceAdd,Nat.reduceSub,List.getElem_toArray,List.getElem_cons_zero,List.getElem_cons_succ,Act.put,List.setIfInBounds_toArray,List.set_cons_zero,List.set_cons_succ]))
        refine wpAnyH_done (by kernel_rfl) ?_ _
        refine NoPanic.normal ?_
        all_goals (
         go_wp2
         go_ret
         exact ⟨ret_bool HF.out.symm,hb.trans ((hbW.trans (Below.mono (by first|exact Below.refl _ _|exact (Below.refl _ _).drew|exact below_drewN (Below.refl _ _) _|exact bel) hq2)).mono hzr)⟩)
      ·have HF:=Lib.hid (catOk_no (unhide HKP) (by rw [itGood_j HK.out HX.out HXP.out];simp [nmLe,← HNQ.out,hl1]))
       have hqn:=fun W=>i_NameOk nm W hnm
       simp only [hnok] at hqn
       have HQN:=hide hqn
       clear hqn
       go_wp2
       have hk0:=blk_new wr (.cells #[.string nm,.int .i64 d,.int .i64 f,.slice A0 ss.length c0] 65)
       have hbW:Below wr.heap.size wr (wr.alloc (.cells #[.string nm,.int .i64 d,.int .i64 f,.slice A0 ss.length c0] 65)):=bel
       have hs0:=hss.alloc (by omega) (.cells #[.string nm,.int .i64 d,.int .i64 f,.slice A0 ss.length c0] 65)
       have hq1:(ad.add (j * 4)).block<wr.heap.size:=by rw [block_of_add];omega
       have hpc0:=(World.cell?_alloc_lt wr (.cells #[.string nm,.int .i64 d,.int .i64 f,.slice A0 ss.length c0] 65) (ad.add (K * 4)) (by rw [block_of_add];omega)).trans hpc;have hpq:(ad.add (K * 4)).block<wr.heap.size:=(by rw [block_of_add];omega)
       generalize (wr.alloc (.cells #[.string nm,.int .i64 d,.int .i64 f,.slice A0 ss.length c0] 65))=w0 at *
       obtain ⟨hy0,hy1,hy2,hy3,hyl⟩:=blk4 hk0
       have hq2:wr.heap.size≤w0.heap.size:=hbW.size
       have hpq2:(ad.add (K * 4)).block<w0.heap.size:=by omega
       have hs0B:=hs0.more (B':=w0.heap.size) (by omega)
       refine wp_region_noPanic ?_
       refine wp_region_held_drew (S:=(fun W=>(∀ p:Addr,p.block<w0.heap.size→W.cell? p=w0.cell? p)∧(∀ p:Addr,p.block<w0.heap.size→W.frozen? p=w0.frozen? p)∧Below w0.heap.size w0 W)) (by kernel_rfl) ?_ (fun hHeld=>?_)
       ·exact (keep_ofP bel)
       change wpAnyH _ _ _ _ _ 25 #[false,false,false,false,false,false,false,false,false,false,false,false,false,false,false,false,false,false,false,false,false,false,false,false,false] _ _
       iterate 2 (refine wgN 25 ?_ rfl (by kernel_rfl) (by kernel_rfl) (by kernel_rfl) (fun _ _ _ h=>h) (by rfl) ?_ (by assumption) ?_;rotate_left;(focus (intro w_ hSw;(try dsimp only at hSw);go_simp;(try (with_reducible rfl))));(try simp only [Nat.reduceAdd,Nat.reduceSub,List.getElem_toArray,List.getElem_cons_zero,List.getElem_cons_succ,Act.put,List.setIfInBounds_toArray,List.set_cons_zero,List.set_cons_succ]))
       refine wpAnyH_ready (rs:=[2]) (by kernel_rfl) (by simp) ?_;refine AllReadyH.cons rfl (fun K hK=>?_) AllReadyH.nil;go_simp
       (refine (unhide HQN _).mono ?_;rintro e w' ⟨rfl,rfl⟩)
       (try (go_wp2_with fail))
       refine hK.out _ _ ?_ (fun hHeld=>?_)
       ·exact (keep_ofP bel)
       clear hK K
       iterate 17 (refine wgN 25 ?_ rfl (by kernel_rfl) (by kernel_rfl) (by kernel_rfl) (fun _ _ _ h=>h) (by rfl) ?_ (by assumption) ?_;rotate_left;(focus (intro w_ hSw;(try dsimp only at hSw);go_simp;(try (with_reducible rfl))));(try simp only [Nat.reduceAdd,Nat.reduceSub,List.getElem_toArray,List.getElem_cons_zero,List.getElem_cons_succ,Act.put,List.setIfInBounds_toArray,List.set_cons_zero,List.set_cons_succ]))
       iterate 4 (refine wsN 25 rfl (by kernel_rfl) (by kernel_rfl) (by kernel_rfl) (fun _ _ _ h=>h) (by rfl) (by assumption) ?_;(try simp only [Nat.reduceAdd,Nat.reduceSub,List.getElem_toArray,List.getElem_cons_zero,List.getElem_cons_succ,Act.put,List.setIfInBounds_toArray,List.set_cons_zero,List.set_cons_succ]))
       iterate 1 (refine wgN 25 ?_ rfl (by kernel_rfl) (by kernel_rfl) (by kernel_rfl) (fun _ _ _ h=>h) (by rfl) ?_ (by assumption) ?_;rotate_left;(focus (intro w_ hSw;(try dsimp only at hSw);go_simp;(try (with_reducible rfl))));(try simp only [Nat.reduceAdd,Nat.reduceSub,List.getElem_toArray,List.getElem_cons_zero,List.getElem_cons_succ,Act.put,List.setIfInBounds_toArray,List.set_cons_zero,List.set_cons_succ]))
       refine wpAnyH_done (by kernel_rfl) ?_ _
       refine NoPanic.normal ?_
       all_goals (
        go_wp2
        go_ret
        exact ⟨ret_bool HF.out.symm,hb.trans ((hbW.trans (Below.mono (by first|exact Below.refl _ _|exact (Below.refl _ _).drew|exact below_drewN (Below.refl _ _) _|exact bel) hq2)).mono hzr)⟩)
  ·have hjn:j=n:=by omega
   subst hjn
   have hcat:catOk P=decide (j≤20):=by
    unfold catOk
    rw [HL.out,HA.out];rfl
   have HF:=Lib.hid hcat
   clear hcat
   by_cases h20:j≤20
   ·go_wp2
    go_ret
    exact ⟨ret_bool (by rw [HF.out];simp [h20];try omega),hb⟩
   ·go_wp2
    go_ret
    exact ⟨ret_bool (by rw [HF.out];simp [h20];try omega),hb⟩
end Go.Proofs.YtlimlolciekimaaGreatDoor
