/- The contract of MakeCopies (the program). -/
import Derived.Test.YtlimlolciekimaaGreatDoorRows
import Derived.Test.YtlimlolciekimaaGreatDoorQUn
import Derived.Test.YtlimlolciekimaaGreatDoorQUm
import Derived.Test.YtlimlolciekimaaGreatDoorQUl
namespace Go.Proofs.YtlimlolciekimaaGreatDoor
set_option maxHeartbeats 1600000
open Go.ChangeShapes Go.WideShapes Go.ChangeAt Go.RowKit
set_option linter.unusedVariables false
set_option linter.unusedSimpArgs false
set_option maxRecDepth 10000
theorem i_MakeCopies (d1 f1:Int) (ss1:List ByteArray) (d2 f2:Int) (ss2:List ByteArray) (st:List PStep) (P:List PItem) (pp:List PPaper) (m:Int) (nm:ByteArray) (k n:Int) (B:Nat) (A1 A2 A3 A4 A5:Option Addr) (c1 c2 c3 c4 c5:Nat) (w:World) (hS:RdWork w B A1 A2 A3 A4 c4 A5 ⟨d1,f1,ss1,d2,f2,ss2,st⟩ P pp) (hB:B≤w.heap.size) (hok:OkWork (PDraft.mk d1 f1 ss1 d2 f2 ss2 st) P pp 1048576) :
  Calls Tryz.prog 143 #[.agg #[.int .i64 d1,.int .i64 f1,.slice A1 ss1.length c1,.int .i64 d2,.int .i64 f2,.slice A2 ss2.length c2,.slice A3 st.length c3,.slice A4 P.length c4,.slice A5 pp.length c5,.int .i64 m],.string nm,.int .i64 k,.int .i64 n] w (UWorkB (makeRes (PWork.mk (PDraft.mk d1 f1 ss1 d2 f2 ss2 st) P pp m) nm k n).1.D.d1 (makeRes (PWork.mk (PDraft.mk d1 f1 ss1 d2 f2 ss2 st) P pp m) nm k n).1.D.f1 (makeRes (PWork.mk (PDraft.mk d1 f1 ss1 d2 f2 ss2 st) P pp m) nm k n).1.D.ss1 (makeRes (PWork.mk (PDraft.mk d1 f1 ss1 d2 f2 ss2 st) P pp m) nm k n).1.D.d2 (makeRes (PWork.mk (PDraft.mk d1 f1 ss1 d2 f2 ss2 st) P pp m) nm k n).1.D.f2 (makeRes (PWork.mk (PDraft.mk d1 f1 ss1 d2 f2 ss2 st) P pp m) nm k n).1.D.ss2 (makeRes (PWork.mk (PDraft.mk d1 f1 ss1 d2 f2 ss2 st) P pp m) nm k n).1.D.st (makeRes (PWork.mk (PDraft.mk d1 f1 ss1 d2 f2 ss2 st) P pp m) nm k n).1.P (makeRes (PWork.mk (PDraft.mk d1 f1 ss1 d2 f2 ss2 st) P pp m) nm k n).1.pp (makeRes (PWork.mk (PDraft.mk d1 f1 ss1 d2 f2 ss2 st) P pp m) nm k n).1.m (makeRes (PWork.mk (PDraft.mk d1 f1 ss1 d2 f2 ss2 st) P pp m) nm k n).2 w):=by
 obtain ⟨L0,hpl,hL0⟩:=hS.i
 have HPL:=Lib.hid hpl
 clear hpl
 have hcn:=fun (W:World) (hW:Below w.heap.size w W)=>i_CardNamed nm P B A4 P.length c4 L0 W HPL.out (hL0.below (hW.mono hB)) (Nat.le_trans hB hW.size)
 have hus:=fun (W:World) (hW:Below w.heap.size w W)=>i_UsePaper pp k n B A5 c5 W (hS.p.below (hW.mono hB)) (Nat.le_trans hB hW.size)
 have hul:(useRes pp k n).1.length≤1048576:=by rw [useRes_len];exact hok.p
 have hn1:=fun h=>make_n1 (W:=(PWork.mk (PDraft.mk d1 f1 ss1 d2 f2 ss2 st) P pp m)) (nm:=nm) (k:=k) (n:=n) h
 have hn2:=fun h=>make_n2 (W:=(PWork.mk (PDraft.mk d1 f1 ss1 d2 f2 ss2 st) P pp m)) (nm:=nm) (k:=k) (n:=n) h
 obtain ⟨mo,hmo⟩:∃ mo,IntKind.i64.wrap (m+5 * n)=mo:=⟨_,rfl⟩
 have hyes:=fun hi hk h=>make_yes (W:=(PWork.mk (PDraft.mk d1 f1 ss1 d2 f2 ss2 st) P pp m)) (nm:=nm) (k:=k) (n:=n) hi hk hmo h
 have hno:=fun h=>make_no (W:=(PWork.mk (PDraft.mk d1 f1 ss1 d2 f2 ss2 st) P pp m)) (nm:=nm) (k:=k) (n:=n) hmo h
 simp only at hn2 hyes hno
 generalize makeRes (PWork.mk (PDraft.mk d1 f1 ss1 d2 f2 ss2 st) P pp m) nm k n=R at *
 generalize named P nm=N at *
 generalize useRes pp k n=q at *
 obtain ⟨⟨dn,fn⟩,ssn,bn⟩:=N
 obtain ⟨ppq,bq⟩:=q
 simp only at hcn hus hul hn2 hyes hno
 have HCN:=hide hcn
 have HUS:=hide hus
 have HUL:=hide hul
 have HOK:=hide hok
 clear hcn hus hul hok hL0
 cases hi:inB n 1 1000
 case false =>
  have HR4:=Lib.hid (hn1 hi)
  have HI:=Lib.hid hi
  clear hn1 hn2 hyes hno hi
  go_enter Tryz.func143,Tryz.ntmps143
  go_wp2_with fail
  generalize e_:(World.alloc _ _)=w1
  symm at e_
  have k_a:=hkc e_ (blk_alloc (bnk w.heap.size) _)
  have k_r:=hkc e_ (bnk (w.heap.size+1))
  have hX_:Boxy w w1:=by rw [e_];exact boxy
  have hb_:Below w.heap.size w w1:=by rw [e_];exact bel
  have c_w1:=hX_.size
  clear e_ hX_
  refine (unhide HCN _ hb_).mono ?_
  rintro e w2 ⟨E2,g2,rfl,hon2,b_⟩
  replace k_a:=blk_next k_a b_
  replace k_r:=blk_next k_r b_
  have c_w2:=b_.size
  replace hb_:=hb_.trans (b_.mono hb_.size)
  clear b_
  have o_nm:=hon2
  clear hon2
  clear o_nm
  obtain ⟨x0a,x1a,x2a,x3a,x4a,x5a,x6a,x7a,x8a,x9a,xla⟩:=blk10 k_a
  go_wp2_with (go_at_call 71;refine (i_within _ _ _ _).mono ?_;rintro e w' ⟨rfl,rfl⟩;rw [HI.out])
  clear x0a x1a x2a x3a x4a x5a x6a x7a x8a x9a xla
  have l_a:=blk_lt k_a
  have l_r:=blk_lt k_r
  have lt_a_w3:=blk_lt k_a
  have lt_r_w3:=blk_lt k_r
  generalize e_:(World.alloc _ _)=w3
  symm at e_
  replace k_a:=hkc e_ (blk_alloc k_a _)
  replace k_r:=hkc e_ (blk_alloc k_r _)
  have k_cd:=hkc e_ (bnk w2.heap.size)
  have hX_:Boxy w2 w3:=by rw [e_];exact boxy
  replace hb_:Below w.heap.size w w3:=by rw [e_];exact bel
  have c_w3:=hX_.size
  clear l_a l_r e_ hX_
  refine (i_workCopied d1 f1 ss1 d2 f2 ss2 st P pp m B A1 A2 A3 A4 A5 c1 c2 c3 c4 c5 w3 (hS.below (hb_.mono hB)) (Nat.le_trans hB hb_.size)).mono ?_
  rintro e w4 ⟨B1,e1,B2q,e2,B3,e3,B4,e4,B5,e5,rfl,hon,b_⟩
  replace k_a:=blk_next k_a b_
  replace k_r:=blk_next k_r b_
  replace k_cd:=blk_next k_cd b_
  have c_w4:=b_.size
  replace hb_:=hb_.trans (b_.mono hb_.size)
  clear b_
  have o_c:=hon
  clear hon
  obtain ⟨⟨x0r,x1r,x2r,x3r,x4r,x5r,x6r,x7r,x8r,x9r,xlr⟩,f0r,f1r,f2r,f3r,f4r,f5r,f6r,f7r,f8r,f9r⟩:=ba10 k_r
  go_wp2
  refine bodyPost_ret (v:=.tuple #[.agg #[.int .i64 d1,.int .i64 f1,.slice B1 ss1.length e1,.int .i64 d2,.int .i64 f2,.slice B2q ss2.length e2,.slice B3 st.length e3,.slice B4 P.length e4,.slice B5 pp.length e5,.int .i64 m],.bool false]) (by simp [results,Tryz.results143,go_sem, *]) rfl ?_
  clear x0r x1r x2r x3r x4r x5r x6r x7r x8r x9r xlr f0r f1r f2r f3r f4r f5r f6r f7r f8r f9r
  have o9_:OwnW w4 w.heap.size w4.heap.size B1 e1 B2q e2 B3 e3 B4 e4 B5 e5 (PDraft.mk d1 f1 ss1 d2 f2 ss2 st) P pp:=o_c.wide (by omega) (by omega)
  exact uwb_cast HR4.out ⟨B1,e1,B2q,e2,B3,e3,B4,e4,B5,e5,rfl,endw k_r o9_ hb_ (by omega)⟩
 case true =>
  have hnb:=inB_iff'.1 hi
  have hw5:IntKind.i64.wrap (5 * n)=5 * n:=by rw [IntKind.wrap_i64];omega
  clear hnb
  cases bn
  case false =>
   have HR4:=Lib.hid (hn2 rfl)
   have HI:=Lib.hid hi
   clear hn1 hn2 hyes hno hi
   go_enter Tryz.func143,Tryz.ntmps143
   go_wp2_with fail
   generalize e_:(World.alloc _ _)=w1
   symm at e_
   have k_a:=hkc e_ (blk_alloc (bnk w.heap.size) _)
   have k_r:=hkc e_ (bnk (w.heap.size+1))
   have hX_:Boxy w w1:=by rw [e_];exact boxy
   have hb_:Below w.heap.size w w1:=by rw [e_];exact bel
   have c_w1:=hX_.size
   clear e_ hX_
   refine (unhide HCN _ hb_).mono ?_
   rintro e w2 ⟨E2,g2,rfl,hon2,b_⟩
   replace k_a:=blk_next k_a b_
   replace k_r:=blk_next k_r b_
   have c_w2:=b_.size
   replace hb_:=hb_.trans (b_.mono hb_.size)
   clear b_
   have o_nm:=hon2
   clear hon2
   clear o_nm
   obtain ⟨x0a,x1a,x2a,x3a,x4a,x5a,x6a,x7a,x8a,x9a,xla⟩:=blk10 k_a
   go_wp2_with (go_at_call 71;refine (i_within _ _ _ _).mono ?_;rintro e w' ⟨rfl,rfl⟩;rw [HI.out])
   clear x0a x1a x2a x3a x4a x5a x6a x7a x8a x9a xla
   have l_a:=blk_lt k_a
   have l_r:=blk_lt k_r
   have lt_a_w3:=blk_lt k_a
   have lt_r_w3:=blk_lt k_r
   generalize e_:(World.alloc _ _)=w3
   symm at e_
   replace k_a:=hkc e_ (blk_alloc k_a _)
   replace k_r:=hkc e_ (blk_alloc k_r _)
   have k_cd:=hkc e_ (bnk w2.heap.size)
   have hX_:Boxy w2 w3:=by rw [e_];exact boxy
   replace hb_:Below w.heap.size w w3:=by rw [e_];exact bel
   have c_w3:=hX_.size
   clear l_a l_r e_ hX_
   refine (i_workCopied d1 f1 ss1 d2 f2 ss2 st P pp m B A1 A2 A3 A4 A5 c1 c2 c3 c4 c5 w3 (hS.below (hb_.mono hB)) (Nat.le_trans hB hb_.size)).mono ?_
   rintro e w4 ⟨B1,e1,B2q,e2,B3,e3,B4,e4,B5,e5,rfl,hon,b_⟩
   replace k_a:=blk_next k_a b_
   replace k_r:=blk_next k_r b_
   replace k_cd:=blk_next k_cd b_
   have c_w4:=b_.size
   replace hb_:=hb_.trans (b_.mono hb_.size)
   clear b_
   have o_c:=hon
   clear hon
   obtain ⟨⟨x0r,x1r,x2r,x3r,x4r,x5r,x6r,x7r,x8r,x9r,xlr⟩,f0r,f1r,f2r,f3r,f4r,f5r,f6r,f7r,f8r,f9r⟩:=ba10 k_r
   go_wp2
   refine bodyPost_ret (v:=.tuple #[.agg #[.int .i64 d1,.int .i64 f1,.slice B1 ss1.length e1,.int .i64 d2,.int .i64 f2,.slice B2q ss2.length e2,.slice B3 st.length e3,.slice B4 P.length e4,.slice B5 pp.length e5,.int .i64 m],.bool false]) (by simp [results,Tryz.results143,go_sem, *]) rfl ?_
   clear x0r x1r x2r x3r x4r x5r x6r x7r x8r x9r xlr f0r f1r f2r f3r f4r f5r f6r f7r f8r f9r
   have o9_:OwnW w4 w.heap.size w4.heap.size B1 e1 B2q e2 B3 e3 B4 e4 B5 e5 (PDraft.mk d1 f1 ss1 d2 f2 ss2 st) P pp:=o_c.wide (by omega) (by omega)
   exact uwb_cast HR4.out ⟨B1,e1,B2q,e2,B3,e3,B4,e4,B5,e5,rfl,endw k_r o9_ hb_ (by omega)⟩
  case true =>
   cases hc:(bq&&(workOk (PWork.mk (PDraft.mk d1 f1 ss1 d2 f2 ss2 st) P pp m)&&workOk (PWork.mk (PDraft.mk d1 f1 ss1 d2 f2 ss2 st) P ppq mo)))
   case false =>
    have HR4:=Lib.hid (hno hc)
    have HN:=Lib.hid hc
    have HI:=Lib.hid hi
    clear hn1 hn2 hyes hno hi hc
    go_enter Tryz.func143,Tryz.ntmps143
    go_wp2_with fail
    generalize e_:(World.alloc _ _)=w1
    symm at e_
    have k_a:=hkc e_ (blk_alloc (bnk w.heap.size) _)
    have k_r:=hkc e_ (bnk (w.heap.size+1))
    have hX_:Boxy w w1:=by rw [e_];exact boxy
    have hb_:Below w.heap.size w w1:=by rw [e_];exact bel
    have c_w1:=hX_.size
    clear e_ hX_
    refine (unhide HCN _ hb_).mono ?_
    rintro e w2 ⟨E2,g2,rfl,hon2,b_⟩
    replace k_a:=blk_next k_a b_
    replace k_r:=blk_next k_r b_
    have c_w2:=b_.size
    replace hb_:=hb_.trans (b_.mono hb_.size)
    clear b_
    have o_nm:=hon2
    clear hon2
    clear o_nm
    obtain ⟨x0a,x1a,x2a,x3a,x4a,x5a,x6a,x7a,x8a,x9a,xla⟩:=blk10 k_a
    go_wp2_with (go_at_call 71;refine (i_within _ _ _ _).mono ?_;rintro e w' ⟨rfl,rfl⟩;rw [HI.out])
    clear x0a x1a x2a x3a x4a x5a x6a x7a x8a x9a xla
    have l_a:=blk_lt k_a
    have l_r:=blk_lt k_r
    have lt_a_w3:=blk_lt k_a
    have lt_r_w3:=blk_lt k_r
    generalize e_:(World.alloc _ _)=w3
    symm at e_
    replace k_a:=hkc e_ (blk_alloc k_a _)
    replace k_r:=hkc e_ (blk_alloc k_r _)
    have k_cd:=hkc e_ (bnk w2.heap.size)
    have hX_:Boxy w2 w3:=by rw [e_];exact boxy
    replace hb_:Below w.heap.size w w3:=by rw [e_];exact bel
    have c_w3:=hX_.size
    clear l_a l_r e_ hX_
    refine (i_workCopied d1 f1 ss1 d2 f2 ss2 st P pp m B A1 A2 A3 A4 A5 c1 c2 c3 c4 c5 w3 (hS.below (hb_.mono hB)) (Nat.le_trans hB hb_.size)).mono ?_
    rintro e w4 ⟨B1,e1,B2q,e2,B3,e3,B4,e4,B5,e5,rfl,hon,b_⟩
    obtain ⟨l1,h1_,l2,h2_,l3,h3_,L4,hr,ha,hx,hp4,hy,hz⟩:=hon.all
    have HP4:=Lib.hid hp4
    have HR:=hide hr
    have HA:=hide ha
    clear hon hr ha hp4
    replace k_a:=blk_next k_a b_
    replace k_r:=blk_next k_r b_
    replace k_cd:=blk_next k_cd b_
    have c_w4:=b_.size
    replace hb_:=hb_.trans (b_.mono hb_.size)
    clear b_
    have o_x:=hx
    clear hx
    have o_y:=hy
    clear hy
    have o_z:=hz
    clear hz
    obtain ⟨x0a,x1a,x2a,x3a,x4a,x5a,x6a,x7a,x8a,x9a,xla⟩:=blk10 k_a
    go_wp2_with fail
    clear x0a x1a x2a x3a x4a x5a x6a x7a x8a x9a xla
    have l_a:=blk_lt k_a
    have l_r:=blk_lt k_r
    have l_cd:=blk_lt k_cd
    have lt_a_w5:=blk_lt k_a
    have lt_r_w5:=blk_lt k_r
    have lt_cd_w5:=blk_lt k_cd
    generalize e_:(World.alloc _ _)=w5
    symm at e_
    replace k_a:=hkc e_ (blk_alloc k_a _)
    replace k_r:=hkc e_ (blk_alloc k_r _)
    replace k_cd:=hkc e_ (blk_alloc k_cd _)
    have k_o:=hkc e_ (bnk w4.heap.size)
    have hX_:Boxy w4 w5:=by rw [e_];exact boxy
    replace o_x:=o_x.boxy hX_
    replace o_y:=o_y.boxy hX_
    replace o_z:=o_z.boxy hX_
    replace hb_:Below w.heap.size w w5:=by rw [e_];exact bel
    have c_w5:=hX_.size
    clear l_a l_r l_cd e_ hX_
    refine (unhide HUS _ hb_).mono ?_
    rintro e w6 ⟨E5,g5,rfl,hon5,b_⟩
    replace k_a:=blk_next k_a b_
    replace k_r:=blk_next k_r b_
    replace k_cd:=blk_next k_cd b_
    replace k_o:=blk_next k_o b_
    replace o_x:=o_x.below b_
    replace o_y:=o_y.below b_
    replace o_z:=o_z.below b_
    have c_w6:=b_.size
    replace hb_:=hb_.trans (b_.mono hb_.size)
    clear b_
    have o_q:=hon5
    clear hon5
    clear o_z
    obtain ⟨x0a,x1a,x2a,x3a,x4a,x5a,x6a,x7a,x8a,x9a,xla⟩:=blk10 k_a
    obtain ⟨⟨x0o,x1o,x2o,x3o,x4o,x5o,x6o,x7o,x8o,x9o,xlo⟩,f0o,f1o,f2o,f3o,f4o,f5o,f6o,f7o,f8o,f9o⟩:=ba10 k_o
    go_wp2_with fail
    clear x0a x1a x2a x3a x4a x5a x6a x7a x8a x9a xla x0o x1o x2o x3o x4o x5o x6o x7o x8o x9o xlo f0o f1o f2o f3o f4o f5o f6o f7o f8o f9o
    have l_a:=blk_lt k_a
    have l_r:=blk_lt k_r
    have l_cd:=blk_lt k_cd
    have l_o:=blk_lt k_o
    have bx_o:=boxAt_of k_o
    generalize e_:(World.setCell _ _ _)=w7
    symm at e_
    replace k_a:=hkc e_ (blk_other (blk_other k_a (show ¬w.heap.size=w4.heap.size by omega) _) (show ¬w.heap.size=w4.heap.size by omega) _)
    replace k_r:=hkc e_ (blk_other (blk_other k_r (show ¬w.heap.size+1=w4.heap.size by omega) _) (show ¬w.heap.size+1=w4.heap.size by omega) _)
    replace k_cd:=hkc e_ (blk_other (blk_other k_cd (show ¬w2.heap.size=w4.heap.size by omega) _) (show ¬w2.heap.size=w4.heap.size by omega) _)
    replace k_o:w7.heap[w4.heap.size]?=some (.cells #[.int .i64 d1,.int .i64 f1,.slice B1 ss1.length e1,.int .i64 d2,.int .i64 f2,.slice B2q ss2.length e2,.slice B3 st.length e3,.slice B4 P.length e4,.slice E5 ppq.length g5,.int .i64 mo] 33 (0,0)):=by rw [e_];have hq9:=(blk_set (blk_set k_o 8 (.slice E5 ppq.length g5)) 9 (.int .i64 mo));simpa using hq9
    have hX_:Boxy w6 w7:=by rw [e_];exact boxy
    replace o_x:=o_x.boxy hX_
    replace o_y:=o_y.boxy hX_
    replace o_q:=o_q.boxy hX_
    replace hb_:Below w.heap.size w w7:=by rw [e_];exact bel
    have c_w7:=hX_.size
    clear l_a l_r l_cd l_o bx_o e_ hX_
    refine (i_wchanged_no d1 f1 ss1 d2 f2 ss2 st P pp m d1 f1 ss1 d2 f2 ss2 st P ppq mo A1 A2 A3 A4 A5 c1 c2 c3 c4 c5 B1 B2q B3 B4 E5 e1 e2 e3 e4 g5 bq B w7.heap.size w7 (hS.below (hb_.mono hB)) (Nat.le_trans hB hb_.size) ⟨o_x.rd ((unhide HOK).d.more (by omega)),⟨L4,HP4.out,o_y.rdP HP4.out ((unhide HOK).i.more (by omega))⟩,o_q.rd (by have:=unhide HUL;omega),own_capU o_y.row⟩ (Nat.le_refl _) HN.out).mono ?_
    rintro e w8 ⟨G1,k1,G2,k2,G3,k3,G4,k4,G5,k5,rfl,hon3,b_⟩
    replace k_a:=blk_next k_a b_
    replace k_r:=blk_next k_r b_
    replace k_cd:=blk_next k_cd b_
    replace k_o:=blk_next k_o b_
    replace o_x:=o_x.below b_
    replace o_y:=o_y.below b_
    replace o_q:=o_q.below b_
    have c_w8:=b_.size
    replace hb_:=hb_.trans (b_.mono hb_.size)
    clear b_
    have o_n:=hon3
    clear hon3
    clear o_x
    clear o_y
    clear o_q
    obtain ⟨⟨x0r,x1r,x2r,x3r,x4r,x5r,x6r,x7r,x8r,x9r,xlr⟩,f0r,f1r,f2r,f3r,f4r,f5r,f6r,f7r,f8r,f9r⟩:=ba10 k_r
    go_wp2
    refine bodyPost_ret (v:=.tuple #[.agg #[.int .i64 d1,.int .i64 f1,.slice G1 ss1.length k1,.int .i64 d2,.int .i64 f2,.slice G2 ss2.length k2,.slice G3 st.length k3,.slice G4 P.length k4,.slice G5 pp.length k5,.int .i64 m],.bool false]) (by simp [results,Tryz.results143,go_sem, *]) rfl ?_
    clear x0r x1r x2r x3r x4r x5r x6r x7r x8r x9r xlr f0r f1r f2r f3r f4r f5r f6r f7r f8r f9r
    have o9_:OwnW w8 w.heap.size w8.heap.size G1 k1 G2 k2 G3 k3 G4 k4 G5 k5 (PDraft.mk d1 f1 ss1 d2 f2 ss2 st) P pp:=o_n.wide (by omega) (by omega)
    exact uwb_cast HR4.out ⟨G1,k1,G2,k2,G3,k3,G4,k4,G5,k5,rfl,endw k_r o9_ hb_ (by omega)⟩
   case true =>
    obtain ⟨rfl,hw1,hw2,hr4⟩:=hyes hi rfl hc
    have HR4:=Lib.hid hr4
    have HW1:=Lib.hid hw1
    have HW2:=Lib.hid hw2
    have HI:=Lib.hid hi
    clear hn1 hn2 hyes hno hi hc hr4 hw1 hw2
    go_enter Tryz.func143,Tryz.ntmps143
    go_wp2_with fail
    generalize e_:(World.alloc _ _)=w1
    symm at e_
    have k_a:=hkc e_ (blk_alloc (bnk w.heap.size) _)
    have k_r:=hkc e_ (bnk (w.heap.size+1))
    have hX_:Boxy w w1:=by rw [e_];exact boxy
    have hb_:Below w.heap.size w w1:=by rw [e_];exact bel
    have c_w1:=hX_.size
    clear e_ hX_
    refine (unhide HCN _ hb_).mono ?_
    rintro e w2 ⟨E2,g2,rfl,hon2,b_⟩
    replace k_a:=blk_next k_a b_
    replace k_r:=blk_next k_r b_
    have c_w2:=b_.size
    replace hb_:=hb_.trans (b_.mono hb_.size)
    clear b_
    have o_nm:=hon2
    clear hon2
    clear o_nm
    obtain ⟨x0a,x1a,x2a,x3a,x4a,x5a,x6a,x7a,x8a,x9a,xla⟩:=blk10 k_a
    go_wp2_with (go_at_call 71;refine (i_within _ _ _ _).mono ?_;rintro e w' ⟨rfl,rfl⟩;rw [HI.out])
    clear x0a x1a x2a x3a x4a x5a x6a x7a x8a x9a xla
    have l_a:=blk_lt k_a
    have l_r:=blk_lt k_r
    have lt_a_w3:=blk_lt k_a
    have lt_r_w3:=blk_lt k_r
    generalize e_:(World.alloc _ _)=w3
    symm at e_
    replace k_a:=hkc e_ (blk_alloc k_a _)
    replace k_r:=hkc e_ (blk_alloc k_r _)
    have k_cd:=hkc e_ (bnk w2.heap.size)
    have hX_:Boxy w2 w3:=by rw [e_];exact boxy
    replace hb_:Below w.heap.size w w3:=by rw [e_];exact bel
    have c_w3:=hX_.size
    clear l_a l_r e_ hX_
    refine (i_workCopied d1 f1 ss1 d2 f2 ss2 st P pp m B A1 A2 A3 A4 A5 c1 c2 c3 c4 c5 w3 (hS.below (hb_.mono hB)) (Nat.le_trans hB hb_.size)).mono ?_
    rintro e w4 ⟨B1,e1,B2q,e2,B3,e3,B4,e4,B5,e5,rfl,hon,b_⟩
    obtain ⟨l1,h1_,l2,h2_,l3,h3_,L4,hr,ha,hx,hp4,hy,hz⟩:=hon.all
    have HP4:=Lib.hid hp4
    have HR:=hide hr
    have HA:=hide ha
    clear hon hr ha hp4
    replace k_a:=blk_next k_a b_
    replace k_r:=blk_next k_r b_
    replace k_cd:=blk_next k_cd b_
    have c_w4:=b_.size
    replace hb_:=hb_.trans (b_.mono hb_.size)
    clear b_
    have o_x:=hx
    clear hx
    have o_y:=hy
    clear hy
    have o_z:=hz
    clear hz
    obtain ⟨x0a,x1a,x2a,x3a,x4a,x5a,x6a,x7a,x8a,x9a,xla⟩:=blk10 k_a
    go_wp2_with fail
    clear x0a x1a x2a x3a x4a x5a x6a x7a x8a x9a xla
    have l_a:=blk_lt k_a
    have l_r:=blk_lt k_r
    have l_cd:=blk_lt k_cd
    have lt_a_w5:=blk_lt k_a
    have lt_r_w5:=blk_lt k_r
    have lt_cd_w5:=blk_lt k_cd
    generalize e_:(World.alloc _ _)=w5
    symm at e_
    replace k_a:=hkc e_ (blk_alloc k_a _)
    replace k_r:=hkc e_ (blk_alloc k_r _)
    replace k_cd:=hkc e_ (blk_alloc k_cd _)
    have k_o:=hkc e_ (bnk w4.heap.size)
    have hX_:Boxy w4 w5:=by rw [e_];exact boxy
    replace o_x:=o_x.boxy hX_
    replace o_y:=o_y.boxy hX_
    replace o_z:=o_z.boxy hX_
    replace hb_:Below w.heap.size w w5:=by rw [e_];exact bel
    have c_w5:=hX_.size
    clear l_a l_r l_cd e_ hX_
    refine (unhide HUS _ hb_).mono ?_
    rintro e w6 ⟨E5,g5,rfl,hon5,b_⟩
    replace k_a:=blk_next k_a b_
    replace k_r:=blk_next k_r b_
    replace k_cd:=blk_next k_cd b_
    replace k_o:=blk_next k_o b_
    replace o_x:=o_x.below b_
    replace o_y:=o_y.below b_
    replace o_z:=o_z.below b_
    have c_w6:=b_.size
    replace hb_:=hb_.trans (b_.mono hb_.size)
    clear b_
    have o_q:=hon5
    clear hon5
    clear o_z
    obtain ⟨x0a,x1a,x2a,x3a,x4a,x5a,x6a,x7a,x8a,x9a,xla⟩:=blk10 k_a
    obtain ⟨⟨x0o,x1o,x2o,x3o,x4o,x5o,x6o,x7o,x8o,x9o,xlo⟩,f0o,f1o,f2o,f3o,f4o,f5o,f6o,f7o,f8o,f9o⟩:=ba10 k_o
    go_wp2_with fail
    clear x0a x1a x2a x3a x4a x5a x6a x7a x8a x9a xla x0o x1o x2o x3o x4o x5o x6o x7o x8o x9o xlo f0o f1o f2o f3o f4o f5o f6o f7o f8o f9o
    have l_a:=blk_lt k_a
    have l_r:=blk_lt k_r
    have l_cd:=blk_lt k_cd
    have l_o:=blk_lt k_o
    have bx_o:=boxAt_of k_o
    generalize e_:(World.setCell _ _ _)=w7
    symm at e_
    replace k_a:=hkc e_ (blk_other (blk_other k_a (show ¬w.heap.size=w4.heap.size by omega) _) (show ¬w.heap.size=w4.heap.size by omega) _)
    replace k_r:=hkc e_ (blk_other (blk_other k_r (show ¬w.heap.size+1=w4.heap.size by omega) _) (show ¬w.heap.size+1=w4.heap.size by omega) _)
    replace k_cd:=hkc e_ (blk_other (blk_other k_cd (show ¬w2.heap.size=w4.heap.size by omega) _) (show ¬w2.heap.size=w4.heap.size by omega) _)
    replace k_o:w7.heap[w4.heap.size]?=some (.cells #[.int .i64 d1,.int .i64 f1,.slice B1 ss1.length e1,.int .i64 d2,.int .i64 f2,.slice B2q ss2.length e2,.slice B3 st.length e3,.slice B4 P.length e4,.slice E5 ppq.length g5,.int .i64 mo] 33 (0,0)):=by rw [e_];have hq9:=(blk_set (blk_set k_o 8 (.slice E5 ppq.length g5)) 9 (.int .i64 mo));simpa using hq9
    have hX_:Boxy w6 w7:=by rw [e_];exact boxy
    replace o_x:=o_x.boxy hX_
    replace o_y:=o_y.boxy hX_
    replace o_q:=o_q.boxy hX_
    replace hb_:Below w.heap.size w w7:=by rw [e_];exact bel
    have c_w7:=hX_.size
    clear l_a l_r l_cd l_o bx_o e_ hX_
    refine (i_wchanged_yes d1 f1 ss1 d2 f2 ss2 st P pp m d1 f1 ss1 d2 f2 ss2 st P ppq mo A1 A2 A3 A4 A5 c1 c2 c3 c4 c5 B1 B2q B3 B4 E5 e1 e2 e3 e4 g5 B w7.heap.size w7 (hS.below (hb_.mono hB)) (Nat.le_trans hB hb_.size) ⟨o_x.rd ((unhide HOK).d.more (by omega)),⟨L4,HP4.out,o_y.rdP HP4.out ((unhide HOK).i.more (by omega))⟩,o_q.rd (by have:=unhide HUL;omega),own_capU o_y.row⟩ (Nat.le_refl _) HW1.out HW2.out).mono ?_
    rintro e w8 ⟨rfl,b_⟩
    replace k_a:=blk_next k_a b_
    replace k_r:=blk_next k_r b_
    replace k_cd:=blk_next k_cd b_
    replace k_o:=blk_next k_o b_
    replace o_x:=o_x.below b_
    replace o_y:=o_y.below b_
    replace o_q:=o_q.below b_
    have c_w8:=b_.size
    replace hb_:=hb_.trans (b_.mono hb_.size)
    clear b_
    obtain ⟨⟨x0r,x1r,x2r,x3r,x4r,x5r,x6r,x7r,x8r,x9r,xlr⟩,f0r,f1r,f2r,f3r,f4r,f5r,f6r,f7r,f8r,f9r⟩:=ba10 k_r
    go_wp2
    refine bodyPost_ret (v:=.tuple #[.agg #[.int .i64 d1,.int .i64 f1,.slice B1 ss1.length e1,.int .i64 d2,.int .i64 f2,.slice B2q ss2.length e2,.slice B3 st.length e3,.slice B4 P.length e4,.slice E5 ppq.length g5,.int .i64 mo],.bool true]) (by simp [results,Tryz.results143,go_sem, *]) rfl ?_
    clear x0r x1r x2r x3r x4r x5r x6r x7r x8r x9r xlr f0r f1r f2r f3r f4r f5r f6r f7r f8r f9r
    have hr1:=unhide HR
    have ha1:=unhide HA
    have o9_:OwnW w8 w.heap.size w8.heap.size B1 e1 B2q e2 B3 e3 B4 e4 E5 g5 (PDraft.mk d1 f1 ss1 d2 f2 ss2 st) P ppq:=OwnW.mk3 o_x HP4.out o_y o_q (by omega) (by omega)
    exact uwb_cast HR4.out ⟨B1,e1,B2q,e2,B3,e3,B4,e4,E5,g5,rfl,endw k_r o9_ hb_ (by omega)⟩
end Go.Proofs.YtlimlolciekimaaGreatDoor
