/- The contract of KeepCard (the reference). -/
import Derived.Test.YtlimlolciekimaaGreatDoorRows
import Derived.Test.YtlimlolciekimaaGreatDoorQUn
import Derived.Test.YtlimlolciekimaaGreatDoorQUl
namespace Go.Proofs.YtlimlolciekimaaGreatDoor
set_option maxHeartbeats 1600000
open Go.ChangeShapes Go.WideShapes Go.ChangeAt Go.RowKit
set_option linter.unusedVariables false
set_option linter.unusedSimpArgs false
set_option maxRecDepth 10000
theorem s_KeepCard (d1 f1:Int) (ss1:List ByteArray) (d2 f2:Int) (ss2:List ByteArray) (st:List PStep) (P:List PItem) (pp:List PPaper) (m:Int) (nm:ByteArray) (B:Nat) (A1 A2 A3 A4 A5:Option Addr) (c1 c2 c3 c4 c5:Nat) (w:World) (hS:RdWork w B A1 A2 A3 A4 c4 A5 ⟨d1,f1,ss1,d2,f2,ss2,st⟩ P pp) (hB:B≤w.heap.size) (hok:OkWork (PDraft.mk d1 f1 ss1 d2 f2 ss2 st) P pp 1048576) (hnm:nm.size≤16777216) :
  Calls Tryz.prog 132 #[.agg #[.int .i64 d1,.int .i64 f1,.slice A1 ss1.length c1,.int .i64 d2,.int .i64 f2,.slice A2 ss2.length c2,.slice A3 st.length c3,.slice A4 P.length c4,.slice A5 pp.length c5,.int .i64 m],.string nm] w (UWorkB (keepRes (PWork.mk (PDraft.mk d1 f1 ss1 d2 f2 ss2 st) P pp m) nm).1.D.d1 (keepRes (PWork.mk (PDraft.mk d1 f1 ss1 d2 f2 ss2 st) P pp m) nm).1.D.f1 (keepRes (PWork.mk (PDraft.mk d1 f1 ss1 d2 f2 ss2 st) P pp m) nm).1.D.ss1 (keepRes (PWork.mk (PDraft.mk d1 f1 ss1 d2 f2 ss2 st) P pp m) nm).1.D.d2 (keepRes (PWork.mk (PDraft.mk d1 f1 ss1 d2 f2 ss2 st) P pp m) nm).1.D.f2 (keepRes (PWork.mk (PDraft.mk d1 f1 ss1 d2 f2 ss2 st) P pp m) nm).1.D.ss2 (keepRes (PWork.mk (PDraft.mk d1 f1 ss1 d2 f2 ss2 st) P pp m) nm).1.D.st (keepRes (PWork.mk (PDraft.mk d1 f1 ss1 d2 f2 ss2 st) P pp m) nm).1.P (keepRes (PWork.mk (PDraft.mk d1 f1 ss1 d2 f2 ss2 st) P pp m) nm).1.pp (keepRes (PWork.mk (PDraft.mk d1 f1 ss1 d2 f2 ss2 st) P pp m) nm).1.m (keepRes (PWork.mk (PDraft.mk d1 f1 ss1 d2 f2 ss2 st) P pp m) nm).2 w):=by
 obtain ⟨L0,hpl,hL0⟩:=hS.i
 have HPL:=Lib.hid hpl
 clear hpl
 have hcall:=fun (W:World) (hW:Below w.heap.size w W)=>s_AddItem nm d2 f2 A2 c2 ss2 P B A4 P.length c4 L0 W HPL.out (hL0.below (hW.mono hB)) (hS.d.s2.below (hW.mono hB)) hnm (Nat.le_trans hB hW.size) (by have:=hok.i.1;omega) hS.cap.1 hS.cap.2.1 hS.cap.2.2
 have hokX:=added_ok P ⟨nm,d2,f2,ss2⟩ 1048576 hok.i ⟨hok.d.l2,hok.d.z2,hnm⟩ (by omega)
 have hs1:=fun h=>keep_s1 (W:=(PWork.mk (PDraft.mk d1 f1 ss1 d2 f2 ss2 st) P pp m)) (nm:=nm) h
 have hs3:=fun h=>keep_s3 (W:=(PWork.mk (PDraft.mk d1 f1 ss1 d2 f2 ss2 st) P pp m)) (nm:=nm) h
 have hs4:=fun h1 h3=>keep_s4 (W:=(PWork.mk (PDraft.mk d1 f1 ss1 d2 f2 ss2 st) P pp m)) (nm:=nm) h1 h3
 simp only at hs1 hs3 hs4
 generalize keepRes (PWork.mk (PDraft.mk d1 f1 ss1 d2 f2 ss2 st) P pp m) nm=R at *
 generalize (added P ⟨nm,d2,f2,ss2⟩)=q at *
 obtain ⟨Pq,bq⟩:=q
 simp only at hcall hokX hs1 hs3 hs4
 have HCALL:=hide hcall
 have HOKX:=hide hokX
 have HOK:=hide hok
 clear hcall hokX hok
 cases hw1:workOk (PWork.mk (PDraft.mk d1 f1 ss1 d2 f2 ss2 st) P pp m)
 case false =>
  have hr4:=hs1 hw1
  have HW1:=Lib.hid hw1
  have HR4:=Lib.hid hr4
  clear hr4 hw1 hs1 hs3 hs4
  go_enter Tryz.func132,Tryz.ntmps132
  go_wp2_with fail
  generalize e_:(World.alloc _ _)=w1
  symm at e_
  have k_a:=hkc e_ (blk_alloc (bnk w.heap.size) _)
  have k_r:=hkc e_ (bnk (w.heap.size+1))
  have hX_:Boxy w w1:=by rw [e_];exact boxy
  have hb_:Below w.heap.size w w1:=by rw [e_];exact bel
  have c_w1:=hX_.size
  clear e_ hX_
  refine (s_l38Copy d1 f1 ss1 d2 f2 ss2 st P pp m B A1 A2 A3 A4 A5 c1 c2 c3 c4 c5 w1 (hS.below (hb_.mono hB)) (Nat.le_trans hB hb_.size)).mono ?_
  rintro e w2 ⟨B1,e1,B2q,e2,B3,e3,B4,e4,B5,e5,rfl,hon,b_⟩
  replace k_a:=blk_next k_a b_
  replace k_r:=blk_next k_r b_
  have c_w2:=b_.size
  replace hb_:=hb_.trans (b_.mono hb_.size)
  clear b_
  have o_c:=hon
  clear hon
  obtain ⟨x0a,x1a,x2a,x3a,x4a,x5a,x6a,x7a,x8a,x9a,xla⟩:=blk10 k_a
  go_wp2_with fail
  clear x0a x1a x2a x3a x4a x5a x6a x7a x8a x9a xla
  have l_a:=blk_lt k_a
  have l_r:=blk_lt k_r
  have lt_a_w3:=blk_lt k_a
  have lt_r_w3:=blk_lt k_r
  generalize e_:(World.alloc _ _)=w3
  symm at e_
  replace k_a:=hkc e_ (blk_alloc k_a _)
  replace k_r:=hkc e_ (blk_alloc k_r _)
  have k_o:=hkc e_ (bnk w2.heap.size)
  have hX_:Boxy w2 w3:=by rw [e_];exact boxy
  replace o_c:=o_c.boxy hX_
  replace hb_:Below w.heap.size w w3:=by rw [e_];exact bel
  have c_w3:=hX_.size
  clear l_a l_r e_ hX_
  refine (s_WorkshopOk d1 f1 ss1 d2 f2 ss2 st P pp m B A1 A2 A3 A4 A5 c1 c2 c3 c4 c5 w3 (hS.below (hb_.mono hB)) (Nat.le_trans hB hb_.size)).mono ?_
  rw [HW1.out]
  rintro e w4 ⟨rfl,b_⟩
  replace k_a:=blk_next k_a b_
  replace k_r:=blk_next k_r b_
  replace k_o:=blk_next k_o b_
  replace o_c:=o_c.below b_
  have c_w4:=b_.size
  replace hb_:=hb_.trans (b_.mono hb_.size)
  clear b_
  obtain ⟨x0o,x1o,x2o,x3o,x4o,x5o,x6o,x7o,x8o,x9o,xlo⟩:=blk10 k_o
  obtain ⟨⟨x0r,x1r,x2r,x3r,x4r,x5r,x6r,x7r,x8r,x9r,xlr⟩,f0r,f1r,f2r,f3r,f4r,f5r,f6r,f7r,f8r,f9r⟩:=ba10 k_r
  go_wp2
  refine bodyPost_ret (v:=.tuple #[.agg #[.int .i64 d1,.int .i64 f1,.slice B1 ss1.length e1,.int .i64 d2,.int .i64 f2,.slice B2q ss2.length e2,.slice B3 st.length e3,.slice B4 P.length e4,.slice B5 pp.length e5,.int .i64 m],.bool false]) (by simp [results,Tryz.results132,go_sem, *]) rfl ?_
  clear x0o x1o x2o x3o x4o x5o x6o x7o x8o x9o xlo x0r x1r x2r x3r x4r x5r x6r x7r x8r x9r xlr f0r f1r f2r f3r f4r f5r f6r f7r f8r f9r
  have o9_:OwnW w4 w.heap.size w4.heap.size B1 e1 B2q e2 B3 e3 B4 e4 B5 e5 (PDraft.mk d1 f1 ss1 d2 f2 ss2 st) P pp:=o_c.wide (by omega) (by omega)
  exact uwb_cast HR4.out ⟨B1,e1,B2q,e2,B3,e3,B4,e4,B5,e5,rfl,endw k_r o9_ hb_ (by omega)⟩
 case true =>
  cases bq
  case false =>
   have hr4:=hs3 rfl
   have HW1:=Lib.hid hw1
   have HR4:=Lib.hid hr4
   clear hr4 hw1 hs1 hs3 hs4
   go_enter Tryz.func132,Tryz.ntmps132
   go_wp2_with fail
   generalize e_:(World.alloc _ _)=w1
   symm at e_
   have k_a:=hkc e_ (blk_alloc (bnk w.heap.size) _)
   have k_r:=hkc e_ (bnk (w.heap.size+1))
   have hX_:Boxy w w1:=by rw [e_];exact boxy
   have hb_:Below w.heap.size w w1:=by rw [e_];exact bel
   have c_w1:=hX_.size
   clear e_ hX_
   refine (s_l38Copy d1 f1 ss1 d2 f2 ss2 st P pp m B A1 A2 A3 A4 A5 c1 c2 c3 c4 c5 w1 (hS.below (hb_.mono hB)) (Nat.le_trans hB hb_.size)).mono ?_
   rintro e w2 ⟨B1,e1,B2q,e2,B3,e3,B4,e4,B5,e5,rfl,hon,b_⟩
   replace k_a:=blk_next k_a b_
   replace k_r:=blk_next k_r b_
   have c_w2:=b_.size
   replace hb_:=hb_.trans (b_.mono hb_.size)
   clear b_
   have o_c:=hon
   clear hon
   obtain ⟨x0a,x1a,x2a,x3a,x4a,x5a,x6a,x7a,x8a,x9a,xla⟩:=blk10 k_a
   go_wp2_with fail
   clear x0a x1a x2a x3a x4a x5a x6a x7a x8a x9a xla
   have l_a:=blk_lt k_a
   have l_r:=blk_lt k_r
   have lt_a_w3:=blk_lt k_a
   have lt_r_w3:=blk_lt k_r
   generalize e_:(World.alloc _ _)=w3
   symm at e_
   replace k_a:=hkc e_ (blk_alloc k_a _)
   replace k_r:=hkc e_ (blk_alloc k_r _)
   have k_o:=hkc e_ (bnk w2.heap.size)
   have hX_:Boxy w2 w3:=by rw [e_];exact boxy
   replace o_c:=o_c.boxy hX_
   replace hb_:Below w.heap.size w w3:=by rw [e_];exact bel
   have c_w3:=hX_.size
   clear l_a l_r e_ hX_
   refine (s_WorkshopOk d1 f1 ss1 d2 f2 ss2 st P pp m B A1 A2 A3 A4 A5 c1 c2 c3 c4 c5 w3 (hS.below (hb_.mono hB)) (Nat.le_trans hB hb_.size)).mono ?_
   rw [HW1.out]
   rintro e w4 ⟨rfl,b_⟩
   replace k_a:=blk_next k_a b_
   replace k_r:=blk_next k_r b_
   replace k_o:=blk_next k_o b_
   replace o_c:=o_c.below b_
   have c_w4:=b_.size
   replace hb_:=hb_.trans (b_.mono hb_.size)
   clear b_
   obtain ⟨x0a,x1a,x2a,x3a,x4a,x5a,x6a,x7a,x8a,x9a,xla⟩:=blk10 k_a
   go_wp2_with fail
   clear x0a x1a x2a x3a x4a x5a x6a x7a x8a x9a xla
   refine (unhide HCALL _ hb_).mono ?_
   rintro e w5 ⟨E4,g4,LQ,rfl,hpq,hon2,b_⟩
   have HPQ:=Lib.hid hpq
   clear hpq
   replace k_a:=blk_next k_a b_
   replace k_r:=blk_next k_r b_
   replace k_o:=blk_next k_o b_
   replace o_c:=o_c.below b_
   have c_w5:=b_.size
   replace hb_:=hb_.trans (b_.mono hb_.size)
   clear b_
   have o_q:=hon2
   clear hon2
   clear o_q
   obtain ⟨x0o,x1o,x2o,x3o,x4o,x5o,x6o,x7o,x8o,x9o,xlo⟩:=blk10 k_o
   obtain ⟨⟨x0r,x1r,x2r,x3r,x4r,x5r,x6r,x7r,x8r,x9r,xlr⟩,f0r,f1r,f2r,f3r,f4r,f5r,f6r,f7r,f8r,f9r⟩:=ba10 k_r
   go_wp2
   have qaa:=boxAt_of k_r
   refine bodyPost_ret (v:=.tuple #[.agg #[.int .i64 d1,.int .i64 f1,.slice B1 ss1.length e1,.int .i64 d2,.int .i64 f2,.slice B2q ss2.length e2,.slice B3 st.length e3,.slice B4 P.length e4,.slice B5 pp.length e5,.int .i64 m],.bool false]) (by simp [results,Tryz.results132,go_sem, *]) rfl ?_
   clear x0o x1o x2o x3o x4o x5o x6o x7o x8o x9o xlo x0r x1r x2r x3r x4r x5r x6r x7r x8r x9r xlr f0r f1r f2r f3r f4r f5r f6r f7r f8r f9r
   obtain ⟨wD,heD⟩:∃ x,x=((((((((((w5.setCell ⟨w.heap.size+1,0,none⟩ (.int .i64 d1)).setCell ⟨w.heap.size+1,1,none⟩ (.int .i64 f1)).setCell ⟨w.heap.size+1,2,none⟩ (.slice B1 ss1.length e1)).setCell ⟨w.heap.size+1,3,none⟩ (.int .i64 d2)).setCell ⟨w.heap.size+1,4,none⟩ (.int .i64 f2)).setCell ⟨w.heap.size+1,5,none⟩ (.slice B2q ss2.length e2)).setCell ⟨w.heap.size+1,6,none⟩ (.slice B3 st.length e3)).setCell ⟨w.heap.size+1,7,none⟩ (.slice B4 P.length e4)).setCell ⟨w.heap.size+1,8,none⟩ (.slice B5 pp.length e5)).setCell ⟨w.heap.size+1,9,none⟩ (.int .i64 m)):=⟨_,rfl⟩
   have hBX1:Boxy w5 wD:=by rw [heD];exact boxy
   have hBW1:Below w.heap.size w wD:=by rw [heD];exact bel
   have hsE1:wD.heap.size=w5.heap.size:=by rw [heD];simp [World.setCell]
   rw [← heD]
   clear heD
   have hBX:Boxy w5 wD:=hBX1
   have hBW:Below w.heap.size w wD:=hBW1
   have hsE:w5.heap.size≤wD.heap.size:=(by first|omega|(simp;omega))
   generalize wD=wE at *
   have hOW:OwnW wE w.heap.size wE.heap.size B1 e1 B2q e2 B3 e3 B4 e4 B5 e5 (PDraft.mk d1 f1 ss1 d2 f2 ss2 st) P pp:=(o_c.boxy hBX).wide (by omega) (by omega)
   exact uwb_cast HR4.out ⟨B1,e1,B2q,e2,B3,e3,B4,e4,B5,e5,rfl,hOW,hBW⟩
  case true =>
   have hr4:=hs4 hw1 rfl
   have HW1:=Lib.hid hw1
   have HR4:=Lib.hid hr4
   clear hr4 hw1 hs1 hs3 hs4
   go_enter Tryz.func132,Tryz.ntmps132
   go_wp2_with fail
   generalize e_:(World.alloc _ _)=w1
   symm at e_
   have k_a:=hkc e_ (blk_alloc (bnk w.heap.size) _)
   have k_r:=hkc e_ (bnk (w.heap.size+1))
   have hX_:Boxy w w1:=by rw [e_];exact boxy
   have hb_:Below w.heap.size w w1:=by rw [e_];exact bel
   have c_w1:=hX_.size
   clear e_ hX_
   refine (s_l38Copy d1 f1 ss1 d2 f2 ss2 st P pp m B A1 A2 A3 A4 A5 c1 c2 c3 c4 c5 w1 (hS.below (hb_.mono hB)) (Nat.le_trans hB hb_.size)).mono ?_
   rintro e w2 ⟨B1,e1,B2q,e2,B3,e3,B4,e4,B5,e5,rfl,hon,b_⟩
   obtain ⟨l1,h1_,l2,h2_,l3,h3_,L4,hr,ha,hx,hp4,hy,hz⟩:=hon.all
   have HP4:=Lib.hid hp4
   have HR:=hide hr
   have HA:=hide ha
   clear hon hr ha hp4
   replace k_a:=blk_next k_a b_
   replace k_r:=blk_next k_r b_
   have c_w2:=b_.size
   replace hb_:=hb_.trans (b_.mono hb_.size)
   clear b_
   have o_x:=hx
   clear hx
   have o_y:=hy
   clear hy
   have o_z:=hz
   clear hz
   obtain ⟨x0a,x1a,x2a,x3a,x4a,x5a,x6a,x7a,x8a,x9a,xla⟩:=blk10 k_a
   go_wp2_with fail
   clear x0a x1a x2a x3a x4a x5a x6a x7a x8a x9a xla
   have l_a:=blk_lt k_a
   have l_r:=blk_lt k_r
   have lt_a_w3:=blk_lt k_a
   have lt_r_w3:=blk_lt k_r
   generalize e_:(World.alloc _ _)=w3
   symm at e_
   replace k_a:=hkc e_ (blk_alloc k_a _)
   replace k_r:=hkc e_ (blk_alloc k_r _)
   have k_o:=hkc e_ (bnk w2.heap.size)
   have hX_:Boxy w2 w3:=by rw [e_];exact boxy
   replace o_x:=o_x.boxy hX_
   replace o_y:=o_y.boxy hX_
   replace o_z:=o_z.boxy hX_
   replace hb_:Below w.heap.size w w3:=by rw [e_];exact bel
   have c_w3:=hX_.size
   clear l_a l_r e_ hX_
   refine (s_WorkshopOk d1 f1 ss1 d2 f2 ss2 st P pp m B A1 A2 A3 A4 A5 c1 c2 c3 c4 c5 w3 (hS.below (hb_.mono hB)) (Nat.le_trans hB hb_.size)).mono ?_
   rw [HW1.out]
   rintro e w4 ⟨rfl,b_⟩
   replace k_a:=blk_next k_a b_
   replace k_r:=blk_next k_r b_
   replace k_o:=blk_next k_o b_
   replace o_x:=o_x.below b_
   replace o_y:=o_y.below b_
   replace o_z:=o_z.below b_
   have c_w4:=b_.size
   replace hb_:=hb_.trans (b_.mono hb_.size)
   clear b_
   obtain ⟨x0a,x1a,x2a,x3a,x4a,x5a,x6a,x7a,x8a,x9a,xla⟩:=blk10 k_a
   go_wp2_with fail
   clear x0a x1a x2a x3a x4a x5a x6a x7a x8a x9a xla
   refine (unhide HCALL _ hb_).mono ?_
   rintro e w5 ⟨E4,g4,LQ,rfl,hpq,hon2,b_⟩
   have HPQ:=Lib.hid hpq
   clear hpq
   replace k_a:=blk_next k_a b_
   replace k_r:=blk_next k_r b_
   replace k_o:=blk_next k_o b_
   replace o_x:=o_x.below b_
   replace o_y:=o_y.below b_
   replace o_z:=o_z.below b_
   have c_w5:=b_.size
   replace hb_:=hb_.trans (b_.mono hb_.size)
   clear b_
   have o_q:=hon2
   clear hon2
   clear o_y
   obtain ⟨x0a,x1a,x2a,x3a,x4a,x5a,x6a,x7a,x8a,x9a,xla⟩:=blk10 k_a
   obtain ⟨⟨x0o,x1o,x2o,x3o,x4o,x5o,x6o,x7o,x8o,x9o,xlo⟩,f0o,f1o,f2o,f3o,f4o,f5o,f6o,f7o,f8o,f9o⟩:=ba10 k_o
   obtain ⟨⟨x0r,x1r,x2r,x3r,x4r,x5r,x6r,x7r,x8r,x9r,xlr⟩,f0r,f1r,f2r,f3r,f4r,f5r,f6r,f7r,f8r,f9r⟩:=ba10 k_r
   go_wp2
   have qba:=boxAt_of k_o
   have qaa:=boxAt_of k_r
   refine bodyPost_ret (v:=.tuple #[.agg #[.int .i64 d1,.int .i64 f1,.slice B1 ss1.length e1,.int .i64 d2,.int .i64 f2,.slice B2q ss2.length e2,.slice B3 st.length e3,.slice E4 Pq.length g4,.slice B5 pp.length e5,.int .i64 m],.bool true]) (by simp [results,Tryz.results132,go_sem, *]) rfl ?_
   clear x0a x1a x2a x3a x4a x5a x6a x7a x8a x9a xla x0o x1o x2o x3o x4o x5o x6o x7o x8o x9o xlo f0o f1o f2o f3o f4o f5o f6o f7o f8o f9o x0r x1r x2r x3r x4r x5r x6r x7r x8r x9r xlr f0r f1r f2r f3r f4r f5r f6r f7r f8r f9r
   obtain ⟨wD,heD⟩:∃ x,x=(((((((((((w5.setCell ⟨w2.heap.size,7,none⟩ (.slice E4 Pq.length g4)).setCell ⟨w.heap.size+1,0,none⟩ (.int .i64 d1)).setCell ⟨w.heap.size+1,1,none⟩ (.int .i64 f1)).setCell ⟨w.heap.size+1,2,none⟩ (.slice B1 ss1.length e1)).setCell ⟨w.heap.size+1,3,none⟩ (.int .i64 d2)).setCell ⟨w.heap.size+1,4,none⟩ (.int .i64 f2)).setCell ⟨w.heap.size+1,5,none⟩ (.slice B2q ss2.length e2)).setCell ⟨w.heap.size+1,6,none⟩ (.slice B3 st.length e3)).setCell ⟨w.heap.size+1,7,none⟩ (.slice E4 Pq.length g4)).setCell ⟨w.heap.size+1,8,none⟩ (.slice B5 pp.length e5)).setCell ⟨w.heap.size+1,9,none⟩ (.int .i64 m)):=⟨_,rfl⟩
   have hBX1:Boxy w5 wD:=by rw [heD];exact boxy
   have hBW1:Below w.heap.size w wD:=by rw [heD];exact bel
   have hsE1:wD.heap.size=w5.heap.size:=by rw [heD];simp [World.setCell]
   rw [← heD]
   clear heD
   have hBX:Boxy w5 wD:=hBX1
   have hBW:Below w.heap.size w wD:=hBW1
   have hsE:w5.heap.size≤wD.heap.size:=(by first|omega|(simp;omega))
   generalize wD=wE at *
   have hr1:=unhide HR
   have ha1:=unhide HA
   have hOW:OwnW wE w.heap.size wE.heap.size B1 e1 B2q e2 B3 e3 E4 g4 B5 e5 (PDraft.mk d1 f1 ss1 d2 f2 ss2 st) Pq pp:=OwnW.mk3 (o_x.boxy hBX) HPQ.out (o_q.boxy hBX) (o_z.boxy hBX) (by omega) (by omega)
   exact uwb_cast HR4.out ⟨B1,e1,B2q,e2,B3,e3,E4,g4,B5,e5,rfl,hOW,hBW⟩
end Go.Proofs.YtlimlolciekimaaGreatDoor
