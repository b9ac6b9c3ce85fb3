/- The contract of KeepCard (the program). -/
import Derived.Test.YtlimlolciekimaaGreatDoorRows
import Derived.Test.YtlimlolciekimaaGreatDoorQUn
import Derived.Test.YtlimlolciekimaaGreatDoorQUl
namespace Go.Proofs.YtlimlolciekimaaGreatDoor
set_option maxHeartbeats 1600000
open Go.ChangeShapes Go.WideShapes Go.ChangeAt Go.RowKit
set_option linter.unusedVariables false
set_option linter.unusedSimpArgs false
set_option maxRecDepth 10000
theorem i_KeepCard (d1 f1:Int) (ss1:List ByteArray) (d2 f2:Int) (ss2:List ByteArray) (st:List PStep) (P:List PItem) (pp:List PPaper) (m:Int) (nm:ByteArray) (B:Nat) (A1 A2 A3 A4 A5:Option Addr) (c1 c2 c3 c4 c5:Nat) (w:World) (hS:RdWork w B A1 A2 A3 A4 c4 A5 ⟨d1,f1,ss1,d2,f2,ss2,st⟩ P pp) (hB:B≤w.heap.size) (hok:OkWork (PDraft.mk d1 f1 ss1 d2 f2 ss2 st) P pp 1048576) (hnm:nm.size≤16777216) :
  Calls Tryz.prog 142 #[.agg #[.int .i64 d1,.int .i64 f1,.slice A1 ss1.length c1,.int .i64 d2,.int .i64 f2,.slice A2 ss2.length c2,.slice A3 st.length c3,.slice A4 P.length c4,.slice A5 pp.length c5,.int .i64 m],.string nm] w (UWorkB (keepRes (PWork.mk (PDraft.mk d1 f1 ss1 d2 f2 ss2 st) P pp m) nm).1.D.d1 (keepRes (PWork.mk (PDraft.mk d1 f1 ss1 d2 f2 ss2 st) P pp m) nm).1.D.f1 (keepRes (PWork.mk (PDraft.mk d1 f1 ss1 d2 f2 ss2 st) P pp m) nm).1.D.ss1 (keepRes (PWork.mk (PDraft.mk d1 f1 ss1 d2 f2 ss2 st) P pp m) nm).1.D.d2 (keepRes (PWork.mk (PDraft.mk d1 f1 ss1 d2 f2 ss2 st) P pp m) nm).1.D.f2 (keepRes (PWork.mk (PDraft.mk d1 f1 ss1 d2 f2 ss2 st) P pp m) nm).1.D.ss2 (keepRes (PWork.mk (PDraft.mk d1 f1 ss1 d2 f2 ss2 st) P pp m) nm).1.D.st (keepRes (PWork.mk (PDraft.mk d1 f1 ss1 d2 f2 ss2 st) P pp m) nm).1.P (keepRes (PWork.mk (PDraft.mk d1 f1 ss1 d2 f2 ss2 st) P pp m) nm).1.pp (keepRes (PWork.mk (PDraft.mk d1 f1 ss1 d2 f2 ss2 st) P pp m) nm).1.m (keepRes (PWork.mk (PDraft.mk d1 f1 ss1 d2 f2 ss2 st) P pp m) nm).2 w):=by
 obtain ⟨L0,hpl,hL0⟩:=hS.i
 have HPL:=Lib.hid hpl
 clear hpl
 have hcall:=fun (W:World) (hW:Below w.heap.size w W)=>i_AddItem nm d2 f2 A2 c2 ss2 P B A4 P.length c4 L0 W HPL.out (hL0.below (hW.mono hB)) (hS.d.s2.below (hW.mono hB)) hnm (Nat.le_trans hB hW.size) (by have:=hok.i.1;omega)
 have hokX:=added_ok P ⟨nm,d2,f2,ss2⟩ 1048576 hok.i ⟨hok.d.l2,hok.d.z2,hnm⟩ (by omega)
 have hyes:=fun h=>keep_yes (W:=(PWork.mk (PDraft.mk d1 f1 ss1 d2 f2 ss2 st) P pp m)) (nm:=nm) h
 have hno:=fun h=>keep_no (W:=(PWork.mk (PDraft.mk d1 f1 ss1 d2 f2 ss2 st) P pp m)) (nm:=nm) h
 simp only at hyes hno
 generalize keepRes (PWork.mk (PDraft.mk d1 f1 ss1 d2 f2 ss2 st) P pp m) nm=R at *
 generalize (added P ⟨nm,d2,f2,ss2⟩)=q at *
 obtain ⟨Pq,bq⟩:=q
 simp only at hcall hokX hyes hno
 have HCALL:=hide hcall
 have HOKX:=hide hokX
 have HOK:=hide hok
 clear hcall hokX hok
 cases hc:(bq&&(workOk (PWork.mk (PDraft.mk d1 f1 ss1 d2 f2 ss2 st) P pp m)&&workOk (PWork.mk (PDraft.mk d1 f1 ss1 d2 f2 ss2 st) Pq pp m)))
 case true =>
  obtain ⟨rfl,hw1,hw2,hr4⟩:=hyes hc
  have HW1:=Lib.hid hw1
  have HW2:=Lib.hid hw2
  have HR4:=Lib.hid hr4
  clear hw1 hw2 hr4 hyes hno hc
  go_enter Tryz.func142,Tryz.ntmps142
  go_wp2_with fail
  generalize e_:(World.alloc _ _)=w1
  symm at e_
  have k_a:=hkc e_ (blk_alloc (bnk w.heap.size) _)
  have k_r:=hkc e_ (bnk (w.heap.size+1))
  have hX_:Boxy w w1:=by rw [e_];exact boxy
  have hb_:Below w.heap.size w w1:=by rw [e_];exact bel
  have c_w1:=hX_.size
  clear e_ hX_
  refine (i_workCopied d1 f1 ss1 d2 f2 ss2 st P pp m B A1 A2 A3 A4 A5 c1 c2 c3 c4 c5 w1 (hS.below (hb_.mono hB)) (Nat.le_trans hB hb_.size)).mono ?_
  rintro e w2 ⟨B1,e1,B2q,e2,B3,e3,B4,e4,B5,e5,rfl,hon,b_⟩
  obtain ⟨l1,h1_,l2,h2_,l3,h3_,L4,hr,ha,hx,hp4,hy,hz⟩:=hon.all
  have HP4:=Lib.hid hp4
  have HR:=hide hr
  have HA:=hide ha
  clear hon hr ha hp4
  replace k_a:=blk_next k_a b_
  replace k_r:=blk_next k_r b_
  have c_w2:=b_.size
  replace hb_:=hb_.trans (b_.mono hb_.size)
  clear b_
  have o_x:=hx
  clear hx
  have o_y:=hy
  clear hy
  have o_z:=hz
  clear hz
  obtain ⟨x0a,x1a,x2a,x3a,x4a,x5a,x6a,x7a,x8a,x9a,xla⟩:=blk10 k_a
  go_wp2_with fail
  clear x0a x1a x2a x3a x4a x5a x6a x7a x8a x9a xla
  have l_a:=blk_lt k_a
  have l_r:=blk_lt k_r
  have lt_a_w3:=blk_lt k_a
  have lt_r_w3:=blk_lt k_r
  generalize e_:(World.alloc _ _)=w3
  symm at e_
  replace k_a:=hkc e_ (blk_alloc k_a _)
  replace k_r:=hkc e_ (blk_alloc k_r _)
  have k_o:=hkc e_ (bnk w2.heap.size)
  have hX_:Boxy w2 w3:=by rw [e_];exact boxy
  replace o_x:=o_x.boxy hX_
  replace o_y:=o_y.boxy hX_
  replace o_z:=o_z.boxy hX_
  replace hb_:Below w.heap.size w w3:=by rw [e_];exact bel
  have c_w3:=hX_.size
  clear l_a l_r e_ hX_
  refine (unhide HCALL _ hb_).mono ?_
  rintro e w4 ⟨E4,g4,LQ,rfl,hpq,hon2,b_⟩
  have HPQ:=Lib.hid hpq
  clear hpq
  replace k_a:=blk_next k_a b_
  replace k_r:=blk_next k_r b_
  replace k_o:=blk_next k_o b_
  replace o_x:=o_x.below b_
  replace o_y:=o_y.below b_
  replace o_z:=o_z.below b_
  have c_w4:=b_.size
  replace hb_:=hb_.trans (b_.mono hb_.size)
  clear b_
  have o_q:=hon2
  clear hon2
  clear o_y
  obtain ⟨x0a,x1a,x2a,x3a,x4a,x5a,x6a,x7a,x8a,x9a,xla⟩:=blk10 k_a
  obtain ⟨⟨x0o,x1o,x2o,x3o,x4o,x5o,x6o,x7o,x8o,x9o,xlo⟩,f0o,f1o,f2o,f3o,f4o,f5o,f6o,f7o,f8o,f9o⟩:=ba10 k_o
  go_wp2_with fail
  clear x0a x1a x2a x3a x4a x5a x6a x7a x8a x9a xla x0o x1o x2o x3o x4o x5o x6o x7o x8o x9o xlo f0o f1o f2o f3o f4o f5o f6o f7o f8o f9o
  have l_a:=blk_lt k_a
  have l_r:=blk_lt k_r
  have l_o:=blk_lt k_o
  have bx_o:=boxAt_of k_o
  generalize e_:(World.setCell _ _ _)=w5
  symm at e_
  replace k_a:=hkc e_ (blk_other k_a (show ¬w.heap.size=w2.heap.size by omega) _)
  replace k_r:=hkc e_ (blk_other k_r (show ¬w.heap.size+1=w2.heap.size by omega) _)
  replace k_o:w5.heap[w2.heap.size]?=some (.cells #[.int .i64 d1,.int .i64 f1,.slice B1 ss1.length e1,.int .i64 d2,.int .i64 f2,.slice B2q ss2.length e2,.slice B3 st.length e3,.slice E4 Pq.length g4,.slice B5 pp.length e5,.int .i64 m] 33 (0,0)):=by rw [e_];have hq9:=(blk_set k_o 7 (.slice E4 Pq.length g4));simpa using hq9
  have hX_:Boxy w4 w5:=by rw [e_];exact boxy
  replace o_x:=o_x.boxy hX_
  replace o_z:=o_z.boxy hX_
  replace o_q:=o_q.boxy hX_
  replace hb_:Below w.heap.size w w5:=by rw [e_];exact bel
  have c_w5:=hX_.size
  clear l_a l_r l_o bx_o e_ hX_
  refine (i_wchanged_yes d1 f1 ss1 d2 f2 ss2 st P pp m d1 f1 ss1 d2 f2 ss2 st Pq pp m A1 A2 A3 A4 A5 c1 c2 c3 c4 c5 B1 B2q B3 E4 B5 e1 e2 e3 g4 e5 B w5.heap.size w5 (hS.below (hb_.mono hB)) (Nat.le_trans hB hb_.size) ⟨o_x.rd ((unhide HOK).d.more (by omega)),⟨LQ,HPQ.out,o_q.rdP HPQ.out ((unhide HOKX).more (by omega))⟩,o_z.rd (by have:=(unhide HOK).p;omega),own_capU o_q.row⟩ (Nat.le_refl _) HW1.out HW2.out).mono ?_
  rintro e w6 ⟨rfl,b_⟩
  replace k_a:=blk_next k_a b_
  replace k_r:=blk_next k_r b_
  replace k_o:=blk_next k_o b_
  replace o_x:=o_x.below b_
  replace o_z:=o_z.below b_
  replace o_q:=o_q.below b_
  have c_w6:=b_.size
  replace hb_:=hb_.trans (b_.mono hb_.size)
  clear b_
  obtain ⟨⟨x0r,x1r,x2r,x3r,x4r,x5r,x6r,x7r,x8r,x9r,xlr⟩,f0r,f1r,f2r,f3r,f4r,f5r,f6r,f7r,f8r,f9r⟩:=ba10 k_r
  go_wp2
  refine bodyPost_ret (v:=.tuple #[.agg #[.int .i64 d1,.int .i64 f1,.slice B1 ss1.length e1,.int .i64 d2,.int .i64 f2,.slice B2q ss2.length e2,.slice B3 st.length e3,.slice E4 Pq.length g4,.slice B5 pp.length e5,.int .i64 m],.bool true]) (by simp [results,Tryz.results142,go_sem, *]) rfl ?_
  clear x0r x1r x2r x3r x4r x5r x6r x7r x8r x9r xlr f0r f1r f2r f3r f4r f5r f6r f7r f8r f9r
  have hr1:=unhide HR
  have ha1:=unhide HA
  have o9_:OwnW w6 w.heap.size w6.heap.size B1 e1 B2q e2 B3 e3 E4 g4 B5 e5 (PDraft.mk d1 f1 ss1 d2 f2 ss2 st) Pq pp:=OwnW.mk3 o_x HPQ.out o_q o_z (by omega) (by omega)
  exact uwb_cast HR4.out ⟨B1,e1,B2q,e2,B3,e3,E4,g4,B5,e5,rfl,endw k_r o9_ hb_ (by omega)⟩
 case false =>
  have hr4:=hno hc
  have HR4:=Lib.hid hr4
  have HN:=Lib.hid hc
  clear hr4 hyes hno hc
  go_enter Tryz.func142,Tryz.ntmps142
  go_wp2_with fail
  generalize e_:(World.alloc _ _)=w1
  symm at e_
  have k_a:=hkc e_ (blk_alloc (bnk w.heap.size) _)
  have k_r:=hkc e_ (bnk (w.heap.size+1))
  have hX_:Boxy w w1:=by rw [e_];exact boxy
  have hb_:Below w.heap.size w w1:=by rw [e_];exact bel
  have c_w1:=hX_.size
  clear e_ hX_
  refine (i_workCopied d1 f1 ss1 d2 f2 ss2 st P pp m B A1 A2 A3 A4 A5 c1 c2 c3 c4 c5 w1 (hS.below (hb_.mono hB)) (Nat.le_trans hB hb_.size)).mono ?_
  rintro e w2 ⟨B1,e1,B2q,e2,B3,e3,B4,e4,B5,e5,rfl,hon,b_⟩
  obtain ⟨l1,h1_,l2,h2_,l3,h3_,L4,hr,ha,hx,hp4,hy,hz⟩:=hon.all
  have HP4:=Lib.hid hp4
  have HR:=hide hr
  have HA:=hide ha
  clear hon hr ha hp4
  replace k_a:=blk_next k_a b_
  replace k_r:=blk_next k_r b_
  have c_w2:=b_.size
  replace hb_:=hb_.trans (b_.mono hb_.size)
  clear b_
  have o_x:=hx
  clear hx
  have o_y:=hy
  clear hy
  have o_z:=hz
  clear hz
  obtain ⟨x0a,x1a,x2a,x3a,x4a,x5a,x6a,x7a,x8a,x9a,xla⟩:=blk10 k_a
  go_wp2_with fail
  clear x0a x1a x2a x3a x4a x5a x6a x7a x8a x9a xla
  have l_a:=blk_lt k_a
  have l_r:=blk_lt k_r
  have lt_a_w3:=blk_lt k_a
  have lt_r_w3:=blk_lt k_r
  generalize e_:(World.alloc _ _)=w3
  symm at e_
  replace k_a:=hkc e_ (blk_alloc k_a _)
  replace k_r:=hkc e_ (blk_alloc k_r _)
  have k_o:=hkc e_ (bnk w2.heap.size)
  have hX_:Boxy w2 w3:=by rw [e_];exact boxy
  replace o_x:=o_x.boxy hX_
  replace o_y:=o_y.boxy hX_
  replace o_z:=o_z.boxy hX_
  replace hb_:Below w.heap.size w w3:=by rw [e_];exact bel
  have c_w3:=hX_.size
  clear l_a l_r e_ hX_
  refine (unhide HCALL _ hb_).mono ?_
  rintro e w4 ⟨E4,g4,LQ,rfl,hpq,hon2,b_⟩
  have HPQ:=Lib.hid hpq
  clear hpq
  replace k_a:=blk_next k_a b_
  replace k_r:=blk_next k_r b_
  replace k_o:=blk_next k_o b_
  replace o_x:=o_x.below b_
  replace o_y:=o_y.below b_
  replace o_z:=o_z.below b_
  have c_w4:=b_.size
  replace hb_:=hb_.trans (b_.mono hb_.size)
  clear b_
  have o_q:=hon2
  clear hon2
  clear o_y
  obtain ⟨x0a,x1a,x2a,x3a,x4a,x5a,x6a,x7a,x8a,x9a,xla⟩:=blk10 k_a
  obtain ⟨⟨x0o,x1o,x2o,x3o,x4o,x5o,x6o,x7o,x8o,x9o,xlo⟩,f0o,f1o,f2o,f3o,f4o,f5o,f6o,f7o,f8o,f9o⟩:=ba10 k_o
  go_wp2_with fail
  clear x0a x1a x2a x3a x4a x5a x6a x7a x8a x9a xla x0o x1o x2o x3o x4o x5o x6o x7o x8o x9o xlo f0o f1o f2o f3o f4o f5o f6o f7o f8o f9o
  have l_a:=blk_lt k_a
  have l_r:=blk_lt k_r
  have l_o:=blk_lt k_o
  have bx_o:=boxAt_of k_o
  generalize e_:(World.setCell _ _ _)=w5
  symm at e_
  replace k_a:=hkc e_ (blk_other k_a (show ¬w.heap.size=w2.heap.size by omega) _)
  replace k_r:=hkc e_ (blk_other k_r (show ¬w.heap.size+1=w2.heap.size by omega) _)
  replace k_o:w5.heap[w2.heap.size]?=some (.cells #[.int .i64 d1,.int .i64 f1,.slice B1 ss1.length e1,.int .i64 d2,.int .i64 f2,.slice B2q ss2.length e2,.slice B3 st.length e3,.slice E4 Pq.length g4,.slice B5 pp.length e5,.int .i64 m] 33 (0,0)):=by rw [e_];have hq9:=(blk_set k_o 7 (.slice E4 Pq.length g4));simpa using hq9
  have hX_:Boxy w4 w5:=by rw [e_];exact boxy
  replace o_x:=o_x.boxy hX_
  replace o_z:=o_z.boxy hX_
  replace o_q:=o_q.boxy hX_
  replace hb_:Below w.heap.size w w5:=by rw [e_];exact bel
  have c_w5:=hX_.size
  clear l_a l_r l_o bx_o e_ hX_
  refine (i_wchanged_no d1 f1 ss1 d2 f2 ss2 st P pp m d1 f1 ss1 d2 f2 ss2 st Pq pp m A1 A2 A3 A4 A5 c1 c2 c3 c4 c5 B1 B2q B3 E4 B5 e1 e2 e3 g4 e5 bq B w5.heap.size w5 (hS.below (hb_.mono hB)) (Nat.le_trans hB hb_.size) ⟨o_x.rd ((unhide HOK).d.more (by omega)),⟨LQ,HPQ.out,o_q.rdP HPQ.out ((unhide HOKX).more (by omega))⟩,o_z.rd (by have:=(unhide HOK).p;omega),own_capU o_q.row⟩ (Nat.le_refl _) HN.out).mono ?_
  rintro e w6 ⟨G1,k1,G2,k2,G3,k3,G4,k4,G5,k5,rfl,hon3,b_⟩
  replace k_a:=blk_next k_a b_
  replace k_r:=blk_next k_r b_
  replace k_o:=blk_next k_o b_
  replace o_x:=o_x.below b_
  replace o_z:=o_z.below b_
  replace o_q:=o_q.below b_
  have c_w6:=b_.size
  replace hb_:=hb_.trans (b_.mono hb_.size)
  clear b_
  have o_n:=hon3
  clear hon3
  clear o_x
  clear o_z
  clear o_q
  obtain ⟨⟨x0r,x1r,x2r,x3r,x4r,x5r,x6r,x7r,x8r,x9r,xlr⟩,f0r,f1r,f2r,f3r,f4r,f5r,f6r,f7r,f8r,f9r⟩:=ba10 k_r
  go_wp2
  refine bodyPost_ret (v:=.tuple #[.agg #[.int .i64 d1,.int .i64 f1,.slice G1 ss1.length k1,.int .i64 d2,.int .i64 f2,.slice G2 ss2.length k2,.slice G3 st.length k3,.slice G4 P.length k4,.slice G5 pp.length k5,.int .i64 m],.bool false]) (by simp [results,Tryz.results142,go_sem, *]) rfl ?_
  clear x0r x1r x2r x3r x4r x5r x6r x7r x8r x9r xlr f0r f1r f2r f3r f4r f5r f6r f7r f8r f9r
  have o9_:OwnW w6 w.heap.size w6.heap.size G1 k1 G2 k2 G3 k3 G4 k4 G5 k5 (PDraft.mk d1 f1 ss1 d2 f2 ss2 st) P pp:=o_n.wide (by omega) (by omega)
  exact uwb_cast HR4.out ⟨G1,k1,G2,k2,G3,k3,G4,k4,G5,k5,rfl,endw k_r o9_ hb_ (by omega)⟩
end Go.Proofs.YtlimlolciekimaaGreatDoor
