/- Contracts of the program's and the reference's functions (Run1, RunPlain, Run2b, Run2i). -/
import Derived.Deep.RegionLaw
import Derived.Test.YtlimlolciekimaaGreatDoorRows
import Derived.Test.YtlimlolciekimaaGreatDoorQUo
import Derived.Test.YtlimlolciekimaaGreatDoorQUq
import Derived.Test.YtlimlolciekimaaGreatDoorQUn
import Derived.Test.YtlimlolciekimaaGreatDoorQUWork9i
import Derived.Test.YtlimlolciekimaaGreatDoorQUf
namespace Go.Proofs.YtlimlolciekimaaGreatDoor
set_option maxHeartbeats 1600000
set_option linter.unusedVariables false
def runAll (W:PWork) (xs:List Int):List PAct→PWork×List Int
 |[]=>(W,xs)
 |x :: l=>runAll (doActRes W x.k x.a x.b).1 (xs++[(doActRes W x.k x.a x.b).2]) l
def runRes (W:PWork) (l:List PAct):PWork×List Int:=if workOk W=true∧l.length≤40 then runAll W [] l else (W,[])
theorem runAll_step {W:PWork} {xs:List Int} {k:Nat} {l:List PAct} (h:k<l.length):runAll W xs (l.drop k) =
  runAll (doActRes W l[k].k l[k].a l[k].b).1 (xs++[(doActRes W l[k].k l[k].a l[k].b).2]) (l.drop (k+1)):=by
 rw [List.drop_eq_getElem_cons h];rfl
theorem runAll_end {W:PWork} {xs:List Int} {k:Nat} {l:List PAct} (h:l.length≤k):runAll W xs (l.drop k)=(W,xs):=by
 rw [List.drop_eq_nil_of_le h];rfl
theorem runAll_ok (l:List PAct):∀ (W:PWork) (xs:List Int),OkWork W.D W.P W.pp 1048576→OkWork (runAll W xs l).1.D (runAll W xs l).1.P (runAll W xs l).1.pp 1048576:=by
 induction l with
 |nil=>intro W xs h;exact h
 |cons x l ih=>intro W xs h;exact ih _ _ (doActRes_ok W _ _ _ h)
theorem runAll_len (l:List PAct):∀ (W:PWork) (xs:List Int),(runAll W xs l).2.length=xs.length+l.length:=by
 induction l with
 |nil=>intro W xs;simp [runAll]
 |cons x l ih=>intro W xs;simp only [runAll];rw [ih];simp;omega
theorem runRes_ok (W:PWork) (l:List PAct) (h:OkWork W.D W.P W.pp 1048576):OkWork (runRes W l).1.D (runRes W l).1.P (runRes W l).1.pp 1048576:=by
 unfold runRes
 split
 ·exact runAll_ok l W [] h
 ·exact h
theorem runRes_no1 {W:PWork} {l:List PAct} (h:workOk W=false):runRes W l=(W,[]):=by unfold runRes;rw [h];simp
theorem runRes_no2 {W:PWork} {l:List PAct} (h:¬l.length≤40):runRes W l=(W,[]):=by unfold runRes;rw [if_neg (fun q=>h q.2)]
theorem runRes_yes {W:PWork} {l:List PAct} (h1:workOk W=true) (h:l.length≤40):runRes W l=runAll W [] l:=by unfold runRes;rw [if_pos ⟨h1,h⟩]
theorem perf_work {W:PWork} {k a b:Int} (h:workOk W=true):workOk (perf W k a b).1=true:=by
 have hm:=workOk_m h
 have hs:∀ s,workOk (shapeRes W s).1=true:=by
  intro s
  unfold shapeRes
  split
  ·rename_i q
   have h2:=workOk_D h (doRes_draft q.2.2)
   rw [workOk_iff] at h2 ⊢
   exact ⟨h2.1,h2.2.1,h2.2.2.1,h2.2.2.2.1,by show 0≤W.m - 1;omega,by show W.m - 1≤1000000;omega⟩
  ·exact h
 unfold perf
 split
 ·exact hs _
 ·split
  ·exact hs _
  ·split
   ·unfold unshapeRes
    split
    ·rename_i q;exact workOk_D h (undoRes_draft q.2)
    ·exact h
   ·split
    ·unfold buyRes
     split
     ·rename_i q;exact q.2.2
     ·exact h
    ·split
     ·unfold keepRes
      split
      ·rename_i q;exact workOk_P h (added_cat q.2)
      ·exact h
     ·split
      ·unfold makeRes
       split
       ·rename_i q
        obtain ⟨h1,h2,h3,h4,h5⟩:=q
        have h0:=inB_iff'.1 h1
        obtain ⟨q1,q2⟩:=useRes_pap h4
        exact workOk_pp h q1 (by rw [useRes_len];exact q2) (by omega) (by omega)
       ·exact h
      ·unfold forgetRes
       split
       ·rename_i q;exact workOk_P h (dropped_cat q.2)
       ·exact h
theorem doAct_work {W:PWork} {k a b:Int} (h:workOk W=true):workOk (doActRes W k a b).1=true:=by
 unfold doActRes
 split
 ·split
  ·exact h
  ·exact perf_work h
 ·exact h
theorem runAll_work (l:List PAct):∀ (W:PWork) (xs:List Int),workOk W=true→workOk (runAll W xs l).1=true:=by
 induction l with
 |nil=>intro W xs h;exact h
 |cons x l ih=>intro W xs h;exact ih _ _ (doAct_work h)
theorem runRes_work {W:PWork} {l:List PAct} (h:workOk W=true):workOk (runRes W l).1=true:=by
 unfold runRes
 split
 ·exact runAll_work l W [] h
 ·exact h
def replay (W:PWork) (l:List PAct) (ns:List Int):Bool:=workOk W&&(decide (l.length≤40)&&decide ((runRes W l).2=ns))
open Go.ChangeShapes Go.WideShapes Go.ChangeAt Go.RowKit
set_option linter.unusedSimpArgs false
set_option maxRecDepth 10000
theorem uwn_cast {W:PWork} {xs:List Int} {q:PWork×List Int} {w w':World} {e:Ending} (h:q=(W,xs)) (hu:UWorkN W.D.d1 W.D.f1 W.D.ss1 W.D.d2 W.D.f2 W.D.ss2 W.D.st W.P W.pp W.m xs w e w'):UWorkN q.1.D.d1 q.1.D.f1 q.1.D.ss1 q.1.D.d2 q.1.D.f2 q.1.D.ss2 q.1.D.st q.1.P q.1.pp q.1.m q.2 w e w':=by subst h;exact hu
theorem own_nilN (w:World) (lo hi:Nat):OwnN w lo hi none 0 []:=⟨World.ownsRow_nil w _ _ _,fun k hk=>by cases hk⟩
theorem own_mtN {w:World} {g:Nat} (h:w.heap[g]?=some (.cells #[] 3 (0,0))):OwnN w g (g+1) (some ⟨g,0,none⟩) 0 [] :=
 ⟨⟨rfl,.inr ⟨g,0,#[],rfl,Nat.le_refl _,h,Nat.le_refl _,by unfold maxLen;omega,rfl,rfl⟩⟩,fun k hk=>by simp [Value.ownBlock] at hk;omega⟩
theorem OwnN.pin {w:World} {lo k c:Nat} {A:Option Addr} {l:List Int} (ho:w.ownsRow lo 3 1 (.slice A l.length c) l.length (ints l)) (h:(Value.slice A l.length c).ownBlock=some k):OwnN w k (k+1) A c l :=
 ⟨own_lo ho (fun j hj=>by rw [h] at hj;injection hj with hj;omega),fun j hj=>by rw [h] at hj;injection hj with hj;omega⟩
theorem OwnN.appended {w0 w w':World} {lo hi n:Nat} {A:Option Addr} {c:Nat} {l m:List Int} {v':Value} (ho:OwnN w lo hi A c l) {b:Nat} (h2:w'.ownsRow b 3 1 v' n (ints m)) (hn:n=m.length) (hpos:0<n) (hat:v'.ownBlock=(Value.slice A l.length c).ownBlock∨v'.ownBlock=some w0.heap.size) :
  ∃ A' c' k,v'=.slice A' m.length c'∧OwnN w' k (k+1) A' c' m∧(lo≤k∧k<hi∨k=w0.heap.size)∧k<w'.heap.size:=by
 subst hn
 obtain ⟨A',c',rfl⟩:=own_slice h2
 obtain ⟨g,cap,hv,hbg,hglt⟩:=h2.form hpos
 have hg:(Value.slice A' m.length c').ownBlock=some g:=by injection hv with e1;subst e1;rfl
 refine ⟨A',c',g,rfl,OwnN.pin h2 hg,?_,hglt⟩
 rcases hat with h|h
 ·left
  rw [hg] at h
  exact ⟨(ho.row.lt g h.symm).1,ho.top g h.symm⟩
 ·right
  rw [hg] at h
  injection h
theorem one_int (x:Int):∀ u∈[Value.int .i64 x],u.oneCell'=true:=by intro u hu;simp at hu;subst hu;rfl
theorem ints_snocR (l:List Int) (x:Int):ints l++[Value.int .i64 x]=ints (l++[x]):=by simp [ints]
set_option maxHeartbeats 3200000 in
theorem i_RunActs (d1 f1:Int) (ss1:List ByteArray) (d2 f2:Int) (ss2:List ByteArray) (st:List PStep) (P:List PItem) (pp:List PPaper) (m:Int) (la:List PAct) (B:Nat) (A1 A2 A3 A4 A5:Option Addr) (c1 c2 c3 c4 c5:Nat) (Aa:Option Addr) (ca:Nat) (w:World) (hS:RdWork w B A1 A2 A3 A4 c4 A5 ⟨d1,f1,ss1,d2,f2,ss2,st⟩ P pp) (hX:Acts w B Aa la.length la) (hB:B≤w.heap.size) (hok:OkWork (PDraft.mk d1 f1 ss1 d2 f2 ss2 st) P pp 1048576) :
  Calls Tryz.prog 12 #[.agg #[.int .i64 d1,.int .i64 f1,.slice A1 ss1.length c1,.int .i64 d2,.int .i64 f2,.slice A2 ss2.length c2,.slice A3 st.length c3,.slice A4 P.length c4,.slice A5 pp.length c5,.int .i64 m],.slice Aa la.length ca] w (UWorkN (runRes (PWork.mk (PDraft.mk d1 f1 ss1 d2 f2 ss2 st) P pp m) la).1.D.d1 (runRes (PWork.mk (PDraft.mk d1 f1 ss1 d2 f2 ss2 st) P pp m) la).1.D.f1 (runRes (PWork.mk (PDraft.mk d1 f1 ss1 d2 f2 ss2 st) P pp m) la).1.D.ss1 (runRes (PWork.mk (PDraft.mk d1 f1 ss1 d2 f2 ss2 st) P pp m) la).1.D.d2 (runRes (PWork.mk (PDraft.mk d1 f1 ss1 d2 f2 ss2 st) P pp m) la).1.D.f2 (runRes (PWork.mk (PDraft.mk d1 f1 ss1 d2 f2 ss2 st) P pp m) la).1.D.ss2 (runRes (PWork.mk (PDraft.mk d1 f1 ss1 d2 f2 ss2 st) P pp m) la).1.D.st (runRes (PWork.mk (PDraft.mk d1 f1 ss1 d2 f2 ss2 st) P pp m) la).1.P (runRes (PWork.mk (PDraft.mk d1 f1 ss1 d2 f2 ss2 st) P pp m) la).1.pp (runRes (PWork.mk (PDraft.mk d1 f1 ss1 d2 f2 ss2 st) P pp m) la).1.m (runRes (PWork.mk (PDraft.mk d1 f1 ss1 d2 f2 ss2 st) P pp m) la).2 w):=by
 have hnX:=hX.nb
 cases hw1:workOk (PWork.mk (PDraft.mk d1 f1 ss1 d2 f2 ss2 st) P pp m)
 case false =>
  have HR4:=Lib.hid (runRes_no1 (l:=la) hw1)
  have HW1:=Lib.hid hw1
  clear hw1 hok
  generalize runRes (PWork.mk (PDraft.mk d1 f1 ss1 d2 f2 ss2 st) P pp m) la=R at *
  go_enter Tryz.func12,Tryz.ntmps12
  go_wp2_with fail
  generalize e_:(World.alloc _ _)=w1
  symm at e_
  have k_a:=hkc e_ (blk_alloc (bnk w.heap.size) _)
  have k_r:=hkc e_ (bnk (w.heap.size+1))
  have hX_:Boxy w w1:=by rw [e_];exact boxy
  have hb_:Below w.heap.size w w1:=by rw [e_];exact bel
  have c_w1:=hX_.size
  clear e_ hX_
  refine (i_WorkshopOk d1 f1 ss1 d2 f2 ss2 st P pp m B A1 A2 A3 A4 A5 c1 c2 c3 c4 c5 w1 (hS.below (hb_.mono hB)) (Nat.le_trans hB hb_.size)).mono ?_
  rw [HW1.out]
  rintro e w2 ⟨rfl,b_⟩
  replace k_a:=blk_next k_a b_
  replace k_r:=blk_next k_r b_
  have c_w2:=b_.size
  replace hb_:=hb_.trans (b_.mono hb_.size)
  clear b_
  obtain ⟨x0a,x1a,x2a,x3a,x4a,x5a,x6a,x7a,x8a,x9a,xla⟩:=blk10 k_a
  go_wp2_with fail
  clear x0a x1a x2a x3a x4a x5a x6a x7a x8a x9a xla
  refine (i_workCopied d1 f1 ss1 d2 f2 ss2 st P pp m B A1 A2 A3 A4 A5 c1 c2 c3 c4 c5 w2 (hS.below (hb_.mono hB)) (Nat.le_trans hB hb_.size)).mono ?_
  rintro e w3 ⟨B1,e1,B2q,e2,B3,e3,B4,e4,B5,e5,rfl,hon,b_⟩
  replace k_a:=blk_next k_a b_
  replace k_r:=blk_next k_r b_
  have c_w3:=b_.size
  replace hb_:=hb_.trans (b_.mono hb_.size)
  clear b_
  have o_c:=hon
  clear hon
  obtain ⟨⟨x0r,x1r,x2r,x3r,x4r,x5r,x6r,x7r,x8r,x9r,xlr⟩,f0r,f1r,f2r,f3r,f4r,f5r,f6r,f7r,f8r,f9r⟩:=ba10 k_r
  go_wp2
  have qea:=boxAt_of k_r
  refine bodyPost_ret (v:=.tuple #[.agg #[.int .i64 d1,.int .i64 f1,.slice B1 ss1.length e1,.int .i64 d2,.int .i64 f2,.slice B2q ss2.length e2,.slice B3 st.length e3,.slice B4 P.length e4,.slice B5 pp.length e5,.int .i64 m],.slice none 0 0]) (by simp [results,Tryz.results12,go_sem, *]) rfl ?_
  clear x0r x1r x2r x3r x4r x5r x6r x7r x8r x9r xlr f0r f1r f2r f3r f4r f5r f6r f7r f8r f9r
  obtain ⟨wE,heE⟩:∃ x,x=((((((((((w3.setCell ⟨w.heap.size+1,0,none⟩ (.int .i64 d1)).setCell ⟨w.heap.size+1,1,none⟩ (.int .i64 f1)).setCell ⟨w.heap.size+1,2,none⟩ (.slice B1 ss1.length e1)).setCell ⟨w.heap.size+1,3,none⟩ (.int .i64 d2)).setCell ⟨w.heap.size+1,4,none⟩ (.int .i64 f2)).setCell ⟨w.heap.size+1,5,none⟩ (.slice B2q ss2.length e2)).setCell ⟨w.heap.size+1,6,none⟩ (.slice B3 st.length e3)).setCell ⟨w.heap.size+1,7,none⟩ (.slice B4 P.length e4)).setCell ⟨w.heap.size+1,8,none⟩ (.slice B5 pp.length e5)).setCell ⟨w.heap.size+1,9,none⟩ (.int .i64 m)):=⟨_,rfl⟩
  have hBX:Boxy w3 wE:=by rw [heE];exact boxy
  have hBW:Below w.heap.size w wE:=by rw [heE];exact bel
  have hsE:wE.heap.size=w3.heap.size:=by rw [heE];simp [World.setCell]
  rw [← heE]
  clear heE
  have hOW:OwnWN wE w.heap.size wE.heap.size B1 e1 B2q e2 B3 e3 B4 e4 B5 e5 none 0 (PDraft.mk d1 f1 ss1 d2 f2 ss2 st) P pp []:=OwnWN.mk2 (o_c.boxy hBX) (own_nilN wE w.heap.size w.heap.size) (by omega) (by omega)
  exact uwn_cast HR4.out ⟨B1,e1,B2q,e2,B3,e3,B4,e4,B5,e5,none,0,rfl,hOW,hBW⟩
 case true =>
  have HW1:=Lib.hid hw1
  by_cases h40:la.length≤40
  case neg =>
   have HR4:=Lib.hid (runRes_no2 (W:=(PWork.mk (PDraft.mk d1 f1 ss1 d2 f2 ss2 st) P pp m)) h40)
   clear hw1 hok
   generalize runRes (PWork.mk (PDraft.mk d1 f1 ss1 d2 f2 ss2 st) P pp m) la=R at *
   go_enter Tryz.func12,Tryz.ntmps12
   go_wp2_with fail
   generalize e_:(World.alloc _ _)=w1
   symm at e_
   have k_a:=hkc e_ (blk_alloc (bnk w.heap.size) _)
   have k_r:=hkc e_ (bnk (w.heap.size+1))
   have hX_:Boxy w w1:=by rw [e_];exact boxy
   have hb_:Below w.heap.size w w1:=by rw [e_];exact bel
   have c_w1:=hX_.size
   clear e_ hX_
   refine (i_WorkshopOk d1 f1 ss1 d2 f2 ss2 st P pp m B A1 A2 A3 A4 A5 c1 c2 c3 c4 c5 w1 (hS.below (hb_.mono hB)) (Nat.le_trans hB hb_.size)).mono ?_
   rw [HW1.out]
   rintro e w2 ⟨rfl,b_⟩
   replace k_a:=blk_next k_a b_
   replace k_r:=blk_next k_r b_
   have c_w2:=b_.size
   replace hb_:=hb_.trans (b_.mono hb_.size)
   clear b_
   obtain ⟨x0a,x1a,x2a,x3a,x4a,x5a,x6a,x7a,x8a,x9a,xla⟩:=blk10 k_a
   go_wp2_with fail
   clear x0a x1a x2a x3a x4a x5a x6a x7a x8a x9a xla
   refine (i_workCopied d1 f1 ss1 d2 f2 ss2 st P pp m B A1 A2 A3 A4 A5 c1 c2 c3 c4 c5 w2 (hS.below (hb_.mono hB)) (Nat.le_trans hB hb_.size)).mono ?_
   rintro e w3 ⟨B1,e1,B2q,e2,B3,e3,B4,e4,B5,e5,rfl,hon,b_⟩
   replace k_a:=blk_next k_a b_
   replace k_r:=blk_next k_r b_
   have c_w3:=b_.size
   replace hb_:=hb_.trans (b_.mono hb_.size)
   clear b_
   have o_c:=hon
   clear hon
   obtain ⟨⟨x0r,x1r,x2r,x3r,x4r,x5r,x6r,x7r,x8r,x9r,xlr⟩,f0r,f1r,f2r,f3r,f4r,f5r,f6r,f7r,f8r,f9r⟩:=ba10 k_r
   go_wp2
   have qea:=boxAt_of k_r
   refine bodyPost_ret (v:=.tuple #[.agg #[.int .i64 d1,.int .i64 f1,.slice B1 ss1.length e1,.int .i64 d2,.int .i64 f2,.slice B2q ss2.length e2,.slice B3 st.length e3,.slice B4 P.length e4,.slice B5 pp.length e5,.int .i64 m],.slice none 0 0]) (by simp [results,Tryz.results12,go_sem, *]) rfl ?_
   clear x0r x1r x2r x3r x4r x5r x6r x7r x8r x9r xlr f0r f1r f2r f3r f4r f5r f6r f7r f8r f9r
   obtain ⟨wE,heE⟩:∃ x,x=((((((((((w3.setCell ⟨w.heap.size+1,0,none⟩ (.int .i64 d1)).setCell ⟨w.heap.size+1,1,none⟩ (.int .i64 f1)).setCell ⟨w.heap.size+1,2,none⟩ (.slice B1 ss1.length e1)).setCell ⟨w.heap.size+1,3,none⟩ (.int .i64 d2)).setCell ⟨w.heap.size+1,4,none⟩ (.int .i64 f2)).setCell ⟨w.heap.size+1,5,none⟩ (.slice B2q ss2.length e2)).setCell ⟨w.heap.size+1,6,none⟩ (.slice B3 st.length e3)).setCell ⟨w.heap.size+1,7,none⟩ (.slice B4 P.length e4)).setCell ⟨w.heap.size+1,8,none⟩ (.slice B5 pp.length e5)).setCell ⟨w.heap.size+1,9,none⟩ (.int .i64 m)):=⟨_,rfl⟩
   have hBX:Boxy w3 wE:=by rw [heE];exact boxy
   have hBW:Below w.heap.size w wE:=by rw [heE];exact bel
   have hsE:wE.heap.size=w3.heap.size:=by rw [heE];simp [World.setCell]
   rw [← heE]
   clear heE
   have hOW:OwnWN wE w.heap.size wE.heap.size B1 e1 B2q e2 B3 e3 B4 e4 B5 e5 none 0 (PDraft.mk d1 f1 ss1 d2 f2 ss2 st) P pp []:=OwnWN.mk2 (o_c.boxy hBX) (own_nilN wE w.heap.size w.heap.size) (by omega) (by omega)
   exact uwn_cast HR4.out ⟨B1,e1,B2q,e2,B3,e3,B4,e4,B5,e5,none,0,rfl,hOW,hBW⟩
  case pos =>
   have hr:=runRes_yes (W:=(PWork.mk (PDraft.mk d1 f1 ss1 d2 f2 ss2 st) P pp m)) hw1 h40
   obtain ⟨R,hR⟩:∃ R,runRes (PWork.mk (PDraft.mk d1 f1 ss1 d2 f2 ss2 st) P pp m) la=R:=⟨_,rfl⟩
   rw [hR] at hr ⊢
   have HF0:Hid (runAll (PWork.mk (PDraft.mk d1 f1 ss1 d2 f2 ss2 st) P pp m) [] (la.drop 0)=R):=hr.symm
   have HOK:=hide hok
   obtain ⟨i0,hi0,hz0,hz1,hz2⟩:=info_parts info_int
   clear hw1 hok hr hR
   go_enter Tryz.func12,Tryz.ntmps12
   go_wp2_with fail
   generalize e_:(World.alloc _ _)=w1
   symm at e_
   have k_a:=hkc e_ (blk_alloc (bnk w.heap.size) _)
   have k_r:=hkc e_ (bnk (w.heap.size+1))
   have hX_:Boxy w w1:=by rw [e_];exact boxy
   have hb_:Below w.heap.size w w1:=by rw [e_];exact bel
   have c_w1:=hX_.size
   clear e_ hX_
   refine (i_WorkshopOk d1 f1 ss1 d2 f2 ss2 st P pp m B A1 A2 A3 A4 A5 c1 c2 c3 c4 c5 w1 (hS.below (hb_.mono hB)) (Nat.le_trans hB hb_.size)).mono ?_
   rw [HW1.out]
   rintro e w2 ⟨rfl,b_⟩
   replace k_a:=blk_next k_a b_
   replace k_r:=blk_next k_r b_
   have c_w2:=b_.size
   replace hb_:=hb_.trans (b_.mono hb_.size)
   clear b_
   obtain ⟨x0a,x1a,x2a,x3a,x4a,x5a,x6a,x7a,x8a,x9a,xla⟩:=blk10 k_a
   go_wp2_with fail
   clear x0a x1a x2a x3a x4a x5a x6a x7a x8a x9a xla
   refine (i_workCopied d1 f1 ss1 d2 f2 ss2 st P pp m B A1 A2 A3 A4 A5 c1 c2 c3 c4 c5 w2 (hS.below (hb_.mono hB)) (Nat.le_trans hB hb_.size)).mono ?_
   rintro e w3 ⟨B1,e1,B2q,e2,B3,e3,B4,e4,B5,e5,rfl,hon,b_⟩
   replace k_a:=blk_next k_a b_
   replace k_r:=blk_next k_r b_
   have c_w3:=b_.size
   replace hb_:=hb_.trans (b_.mono hb_.size)
   clear b_
   have o_c:=hon
   clear hon
   obtain ⟨x0a,x1a,x2a,x3a,x4a,x5a,x6a,x7a,x8a,x9a,xla⟩:=blk10 k_a
   go_wp2_with fail
   clear x0a x1a x2a x3a x4a x5a x6a x7a x8a x9a xla
   have l_a:=blk_lt k_a
   have l_r:=blk_lt k_r
   have lt_a_w4:=blk_lt k_a
   have lt_r_w4:=blk_lt k_r
   generalize e_:(World.alloc _ _)=w4
   symm at e_
   replace k_a:=hkc e_ (blk_alloc (blk_alloc k_a _) _)
   replace k_r:=hkc e_ (blk_alloc (blk_alloc k_r _) _)
   have k_nb:=hkc e_ (blk_alloc (bnk w3.heap.size) _)
   have k_o:=hkc e_ (bnk (w3.heap.size+1))
   have hX_:Boxy w3 w4:=by rw [e_];exact boxy
   replace o_c:=o_c.boxy hX_
   replace hb_:Below w.heap.size w w4:=by rw [e_];exact bel
   have c_w4:=hX_.size
   clear l_a l_r e_ hX_
   have hltnb:=blk_lt k_nb
   have qga:=own_mtN k_nb
   clear k_nb
   go_loopw [7,27] (fun nums i wr=>∃ (k:Nat) (d1k f1k:Int) (ss1k:List ByteArray) (d2k f2k:Int) (ss2k:List ByteArray) (stk:List PStep) (Pk:List PItem) (ppk:List PPaper) (mk:Int) (xk:List Int) (H1:Option Addr) (u1:Nat) (H2:Option Addr) (u2:Nat) (H3:Option Addr) (u3:Nat) (H4:Option Addr) (u4:Nat) (H5:Option Addr) (u5:Nat) (H6:Option Addr) (u6:Nat) (l1 h1 l2 h2:Nat),k≤la.length∧i=.int .i64 k∧nums=.slice H6 xk.length u6∧Hid (xk.length=k)∧Hid (runAll (PWork.mk (PDraft.mk d1k f1k ss1k d2k f2k ss2k stk) Pk ppk mk) xk (la.drop k)=R)∧Hid (OkWork (PDraft.mk d1k f1k ss1k d2k f2k ss2k stk) Pk ppk 1048576)∧wr.heap[w3.heap.size+1]?=some (.cells #[.int .i64 d1k,.int .i64 f1k,.slice H1 ss1k.length u1,.int .i64 d2k,.int .i64 f2k,.slice H2 ss2k.length u2,.slice H3 stk.length u3,.slice H4 Pk.length u4,.slice H5 ppk.length u5,.int .i64 mk] 33 (0,0))∧wr.heap[w.heap.size+1]?=some (.cells #[.int .i64 0,.int .i64 0,.slice none 0 0,.int .i64 0,.int .i64 0,.slice none 0 0,.slice none 0 0,.slice none 0 0,.slice none 0 0,.int .i64 0] 33 (0,0))∧OwnW wr l1 h1 H1 u1 H2 u2 H3 u3 H4 u4 H5 u5 (PDraft.mk d1k f1k ss1k d2k f2k ss2k stk) Pk ppk∧OwnN wr l2 h2 H6 u6 xk∧(h1≤l2∨h2≤l1)∧(w.heap.size≤l1∧h1≤wr.heap.size∧w.heap.size≤l2∧h2≤wr.heap.size∧l2≤wr.heap.size)∧w4.heap.size≤wr.heap.size∧Below w.heap.size w wr) (fun _ i _=>la.length - (intOf i).toNat)
   case atStart=>exact ⟨0,d1,f1,ss1,d2,f2,ss2,st,P,pp,m,[],B1,e1,B2q,e2,B3,e3,B4,e4,B5,e5,_,0,_,_,_,_,Nat.zero_le _,rfl,rfl,rfl,HF0,HOK,k_o,k_r,o_c,qga,by omega,by omega,Nat.le_refl _,hb_⟩
   case round =>
    obtain ⟨k,d1k,f1k,ss1k,d2k,f2k,ss2k,stk,Pk,ppk,mk,xk,H1,u1,H2,u2,H3,u3,H4,u4,H5,u5,H6,u6,l1,h1,l2,h2,hk,rfl,rfl,HXL,HF,HOKK,hko,hkr,hoW,hoN,hd12,hr12,hwr,hbr⟩:=hrel
    by_cases hlt:k<la.length
    ·obtain ⟨hkl,ad,rfl,hab,hc0,hc1,hc2⟩:=(hX.below (hbr.mono hB)).at_ hlt
     have hst:=runAll_step (W:=(PWork.mk (PDraft.mk d1k f1k ss1k d2k f2k ss2k stk) Pk ppk mk)) (xs:=xk) (l:=la) hkl
     rw [HF.out] at hst
     have hokx:=doActRes_ok (PWork.mk (PDraft.mk d1k f1k ss1k d2k f2k ss2k stk) Pk ppk mk) la[k].k la[k].a la[k].b HOKK.out
     have hcall:=fun (W:World) (hW1:RdWork W W.heap.size H1 H2 H3 H4 u4 H5 (PDraft.mk d1k f1k ss1k d2k f2k ss2k stk) Pk ppk)=>i_DoAct d1k f1k ss1k d2k f2k ss2k stk Pk ppk mk la[k].k la[k].a la[k].b W.heap.size H1 H2 H3 H4 H5 u1 u2 u3 u4 u5 W hW1 (Nat.le_refl _) HOKK.out
     generalize doActRes (PWork.mk (PDraft.mk d1k f1k ss1k d2k f2k ss2k stk) Pk ppk mk) la[k].k la[k].a la[k].b=Q at *
     obtain ⟨⟨⟨d1r,f1r,ss1r,d2r,f2r,ss2r,str⟩,Pr,ppr,mr⟩,rb⟩:=Q
     simp only at hcall hst hokx
     have HST:=Lib.hid hst
     have HCALL:=hide hcall
     have HOKX:=hide hokx
     clear hst hcall hokx HF
     have qfa:=hbr.size
     obtain ⟨x0o,x1o,x2o,x3o,x4o,x5o,x6o,x7o,x8o,x9o,xlo⟩:=blk10 hko
     go_wp2_with fail
     clear x0o x1o x2o x3o x4o x5o x6o x7o x8o x9o xlo
     have l_o:=blk_lt hko
     have l_r:=blk_lt hkr
     have lt_o_w21:=blk_lt hko
     have lt_r_w21:=blk_lt hkr
     generalize e_:(World.alloc _ _)=w21
     symm at e_
     have k_o:=hkc e_ (blk_alloc hko _)
     have k_r:=hkc e_ (blk_alloc hkr _)
     have k_act:=hkc e_ (bnk wr.heap.size)
     have hX_:Boxy wr w21:=by rw [e_];exact boxy
     have o_W:=hoW.boxy hX_
     have o_N:=hoN.boxy hX_
     have hb_:Below w.heap.size w w21:=by rw [e_];exact bel
     have c_w21:=hX_.size
     clear l_o l_r e_ hko hkr hX_ hoW hoN hbr
     clear hc0 hc1 hc2
     refine (unhide HCALL _ (o_W.rd ((unhide HOKK).more (by omega)))).mono ?_
     rintro e w22 ⟨G1,q1,G2,q2,G3,q3,G4,q4,G5,q5,rfl,hon,b_⟩
     replace k_o:=blk_next k_o b_
     replace k_r:=blk_next k_r b_
     replace k_act:=blk_next k_act b_
     replace o_W:=o_W.below b_
     replace o_N:=o_N.below b_
     have c_w22:=b_.size
     replace hb_:=hb_.trans (b_.mono hb_.size)
     clear b_
     have o_n:=hon
     clear hon
     clear o_W
     go_wp2_with fail
     have l_o:=blk_lt k_o
     have l_r:=blk_lt k_r
     have l_act:=blk_lt k_act
     have lt_o_w23:=blk_lt k_o
     have lt_r_w23:=blk_lt k_r
     have lt_act_w23:=blk_lt k_act
     generalize e_:(World.alloc _ _)=w23
     symm at e_
     replace k_o:=hkc e_ (blk_alloc k_o _)
     replace k_r:=hkc e_ (blk_alloc k_r _)
     replace k_act:=hkc e_ (blk_alloc k_act _)
     have k_nx:=hkc e_ (bnk w22.heap.size)
     have hX_:Boxy w22 w23:=by rw [e_];exact boxy
     replace o_N:=o_N.boxy hX_
     replace o_n:=o_n.boxy hX_
     replace hb_:Below w.heap.size w w23:=by rw [e_];exact bel
     have c_w23:=hX_.size
     clear l_o l_r l_act e_ hX_
     obtain ⟨⟨x0o,x1o,x2o,x3o,x4o,x5o,x6o,x7o,x8o,x9o,xlo⟩,f0o,f1o,f2o,f3o,f4o,f5o,f6o,f7o,f8o,f9o⟩:=ba10 k_o
     obtain ⟨x0nx,x1nx,x2nx,x3nx,x4nx,x5nx,x6nx,x7nx,x8nx,x9nx,xlnx⟩:=blk10 k_nx
     go_region_law ((have hoE:=o_N.row.alloc (.cells #[.int .i64 rb] 3));(have hrE:=reads_new w23 #[.int .i64 rb] 3 1 1 rfl);refine step_append_any _ rfl (.tmp 38) (.tmp 40) _ rfl l2 3 i0 _ 1 8 Tryz.underlying37 hi0 hz0 hz1 hz2 rfl (by omega) (.slice H6 xk.length u6) xk.length (ints xk) rfl ?_ (w23.heap.size+1) (some ⟨w23.heap.size,0,none⟩) 1 1 [.int .i64 rb] rfl ?_ (one_int _) ?_ ?_ ?_ ?_;(first|exact hoE|exact ⟨hoE.1,hoE.2⟩);(first|exact hrE|exact ⟨hrE.1,hrE.2⟩);(have hxl9:=HXL.out;unfold maxLen;omega);(have hxl9:=HXL.out;omega);(simp;omega);intro v1 w90 hoa hga0 hata;(have hga:World.grownBy (w23.alloc (.cells #[.int .i64 rb] 3)) w90 (Value.slice H6 xk.length u6).ownBlock:=(by first|exact hga0|exact ⟨hga0.os,hga0.tape,hga0.output,hga0.size,hga0.block⟩));rw [ints_snocR] at hoa;obtain ⟨A9,c9,kz,rfl,hoq,hkz,hkz2⟩:=OwnN.appended (w0:=w23.alloc (.cells #[.int .i64 rb] 3)) o_N hoa (by simp) (by omega) (by first|exact hata|(simpa using hata));(have hWt:Within l2 h2 (w23.alloc (.cells #[.int .i64 rb] 3)) w90:=Within.of_grown hoE (by decide) hga (Nat.le_refl _) o_N.top);(have qaa:=blk_markedk (blk_alloc k_o (.cells #[.int .i64 rb] 3)) hga hoE (by decide));(have qca:=blk_markedk (blk_alloc k_r (.cells #[.int .i64 rb] 3)) hga hoE (by decide));(have qba:=blk_markedk (blk_alloc k_nx (.cells #[.int .i64 rb] 3)) hga hoE (by decide));(have qda:=(o_n.alloc (.cells #[.int .i64 rb] 3)).within hWt (by omega));(have qha:w23.heap.size+1≤w90.heap.size:=(by have:=hga.size;simp at this;omega));(have qia:Below w.heap.size w w90:=(hb_.alloc (by first|exact Nat.le_refl _|(simp;done)|omega|(simp;omega)|exact (‹_∧_∧Below _ _ _›).2.2.size) (.cells #[.int .i64 rb] 3)).trans (hWt.below (by omega) (by simp;omega)));obtain ⟨hyo0,hyo1,hyo2,hyo3,hyo4,hyo5,hyo6,hyo7,hyo8,hyo9,hyol⟩:=blk10 qaa;obtain ⟨hyx0,hyx1,hyx2,hyx3,hyx4,hyx5,hyx6,hyx7,hyx8,hyx9,hyxl⟩:=blk10 qba;have hfo0:=(blk_cells qaa 0).2;have hfo1:=(blk_cells qaa 1).2;have hfo2:=(blk_cells qaa 2).2;have hfo3:=(blk_cells qaa 3).2;have hfo4:=(blk_cells qaa 4).2;have hfo5:=(blk_cells qaa 5).2;have hfo6:=(blk_cells qaa 6).2;have hfo7:=(blk_cells qaa 7).2;have hfo8:=(blk_cells qaa 8).2;have hfo9:=(blk_cells qaa 9).2;clear hga hga0 hrE hata hoE x0o x1o x2o x3o x4o x5o x6o x7o x8o x9o xlo f0o f1o f2o f3o f4o f5o f6o f7o f8o f9o x0nx x1nx x2nx x3nx x4nx x5nx x6nx x7nx x8nx x9nx xlnx)
     all_goals (
      go_wp2
      have hkz3:(l2≤kz∧kz<h2)∨kz=w23.heap.size+1:=by first|(simpa using hkz)|(simp at hkz;omega)
      have qja:=boxAt_of qaa
      go_roundw
      case rel =>
       obtain ⟨wE,heE⟩:∃ x,x=((((((((((w90.setCell ⟨w3.heap.size+1,0,none⟩ (.int .i64 d1r)).setCell ⟨w3.heap.size+1,1,none⟩ (.int .i64 f1r)).setCell ⟨w3.heap.size+1,2,none⟩ (.slice G1 ss1r.length q1)).setCell ⟨w3.heap.size+1,3,none⟩ (.int .i64 d2r)).setCell ⟨w3.heap.size+1,4,none⟩ (.int .i64 f2r)).setCell ⟨w3.heap.size+1,5,none⟩ (.slice G2 ss2r.length q2)).setCell ⟨w3.heap.size+1,6,none⟩ (.slice G3 str.length q3)).setCell ⟨w3.heap.size+1,7,none⟩ (.slice G4 Pr.length q4)).setCell ⟨w3.heap.size+1,8,none⟩ (.slice G5 ppr.length q5)).setCell ⟨w3.heap.size+1,9,none⟩ (.int .i64 mr)):=⟨_,rfl⟩
       have hBX:Boxy w90 wE:=by rw [heE];exact boxy
       have hBW:Below w.heap.size w wE:=by rw [heE];exact bel
       have hsE:wE.heap.size=w90.heap.size:=by rw [heE];simp [World.setCell]
       have hkoE:wE.heap[w3.heap.size+1]?=some (.cells #[.int .i64 d1r,.int .i64 f1r,.slice G1 ss1r.length q1,.int .i64 d2r,.int .i64 f2r,.slice G2 ss2r.length q2,.slice G3 str.length q3,.slice G4 Pr.length q4,.slice G5 ppr.length q5,.int .i64 mr] 33 (0,0)):=by rw [heE];exact blk10_set qaa _ _ _ _ _ _ _ _ _ _
       have hkrE:wE.heap[w.heap.size+1]?=some (.cells #[.int .i64 0,.int .i64 0,.slice none 0 0,.int .i64 0,.int .i64 0,.slice none 0 0,.slice none 0 0,.slice none 0 0,.slice none 0 0,.int .i64 0] 33 (0,0)):=by rw [heE];exact (blk_other (p:=⟨w3.heap.size+1,9,none⟩) (blk_other (p:=⟨w3.heap.size+1,8,none⟩) (blk_other (p:=⟨w3.heap.size+1,7,none⟩) (blk_other (p:=⟨w3.heap.size+1,6,none⟩) (blk_other (p:=⟨w3.heap.size+1,5,none⟩) (blk_other (p:=⟨w3.heap.size+1,4,none⟩) (blk_other (p:=⟨w3.heap.size+1,3,none⟩) (blk_other (p:=⟨w3.heap.size+1,2,none⟩) (blk_other (p:=⟨w3.heap.size+1,1,none⟩) (blk_other (p:=⟨w3.heap.size+1,0,none⟩) qca (show ¬w.heap.size+1=w3.heap.size+1 by omega) (.int .i64 d1r)) (show ¬w.heap.size+1=w3.heap.size+1 by omega) (.int .i64 f1r)) (show ¬w.heap.size+1=w3.heap.size+1 by omega) (.slice G1 ss1r.length q1)) (show ¬w.heap.size+1=w3.heap.size+1 by omega) (.int .i64 d2r)) (show ¬w.heap.size+1=w3.heap.size+1 by omega) (.int .i64 f2r)) (show ¬w.heap.size+1=w3.heap.size+1 by omega) (.slice G2 ss2r.length q2)) (show ¬w.heap.size+1=w3.heap.size+1 by omega) (.slice G3 str.length q3)) (show ¬w.heap.size+1=w3.heap.size+1 by omega) (.slice G4 Pr.length q4)) (show ¬w.heap.size+1=w3.heap.size+1 by omega) (.slice G5 ppr.length q5)) (show ¬w.heap.size+1=w3.heap.size+1 by omega) (.int .i64 mr))
       have hoWE:=qda.boxy hBX
       have hoNE:=hoq.boxy hBX
       first|rw [← heE]|skip
       exact ⟨k+1,d1r,f1r,ss1r,d2r,f2r,ss2r,str,Pr,ppr,mr,xk++[rb],G1,q1,G2,q2,G3,q3,G4,q4,G5,q5,A9,c9,_,_,kz,kz+1,by omega,by go_num,by simp,(by unfold Hid;have hxl9:=HXL.out;simp;omega),HST.out.symm,unhide HOKX,hkoE,hkrE,hoWE,hoNE,by omega,by omega,by omega,hBW⟩
      case measure=>simp [intOf];omega
     )
    ·have hke:k=la.length:=by omega
     subst hke
     have hfin:=runAll_end (W:=(PWork.mk (PDraft.mk d1k f1k ss1k d2k f2k ss2k stk) Pk ppk mk)) (xs:=xk) (l:=la) (Nat.le_refl _)
     rw [HF.out] at hfin
     have HR4:=Lib.hid hfin
     clear hfin HF
     have qfa:=hbr.size
     obtain ⟨x0o,x1o,x2o,x3o,x4o,x5o,x6o,x7o,x8o,x9o,xlo⟩:=blk10 hko
     obtain ⟨⟨x0r,x1r,x2r,x3r,x4r,x5r,x6r,x7r,x8r,x9r,xlr⟩,f0r,f1r,f2r,f3r,f4r,f5r,f6r,f7r,f8r,f9r⟩:=ba10 hkr
     go_wp2
     have qea:=boxAt_of hkr
     refine bodyPost_ret (v:=.tuple #[.agg #[.int .i64 d1k,.int .i64 f1k,.slice H1 ss1k.length u1,.int .i64 d2k,.int .i64 f2k,.slice H2 ss2k.length u2,.slice H3 stk.length u3,.slice H4 Pk.length u4,.slice H5 ppk.length u5,.int .i64 mk],.slice H6 xk.length u6]) (by simp [results,Tryz.results12,go_sem, *]) rfl ?_
     clear x0o x1o x2o x3o x4o x5o x6o x7o x8o x9o xlo x0r x1r x2r x3r x4r x5r x6r x7r x8r x9r xlr f0r f1r f2r f3r f4r f5r f6r f7r f8r f9r
     obtain ⟨wE,heE⟩:∃ x,x=((((((((((wr.setCell ⟨w.heap.size+1,0,none⟩ (.int .i64 d1k)).setCell ⟨w.heap.size+1,1,none⟩ (.int .i64 f1k)).setCell ⟨w.heap.size+1,2,none⟩ (.slice H1 ss1k.length u1)).setCell ⟨w.heap.size+1,3,none⟩ (.int .i64 d2k)).setCell ⟨w.heap.size+1,4,none⟩ (.int .i64 f2k)).setCell ⟨w.heap.size+1,5,none⟩ (.slice H2 ss2k.length u2)).setCell ⟨w.heap.size+1,6,none⟩ (.slice H3 stk.length u3)).setCell ⟨w.heap.size+1,7,none⟩ (.slice H4 Pk.length u4)).setCell ⟨w.heap.size+1,8,none⟩ (.slice H5 ppk.length u5)).setCell ⟨w.heap.size+1,9,none⟩ (.int .i64 mk)):=⟨_,rfl⟩
     have hBX:Boxy wr wE:=by rw [heE];exact boxy
     have hBW:Below w.heap.size w wE:=by rw [heE];exact bel
     have hsE:wE.heap.size=wr.heap.size:=by rw [heE];simp [World.setCell]
     rw [← heE]
     clear heE
     have hOW:OwnWN wE w.heap.size wE.heap.size H1 u1 H2 u2 H3 u3 H4 u4 H5 u5 H6 u6 (PDraft.mk d1k f1k ss1k d2k f2k ss2k stk) Pk ppk xk:=OwnWN.mk2 (hoW.boxy hBX) (hoN.boxy hBX) (by omega) (by omega)
     exact uwn_cast HR4.out ⟨H1,u1,H2,u2,H3,u3,H4,u4,H5,u5,H6,u6,rfl,hOW,hBW⟩
end Go.Proofs.YtlimlolciekimaaGreatDoor
