/- The contract of BuyPaper (the program). -/
import Derived.Test.YtlimlolciekimaaGreatDoorRows
import Derived.Test.YtlimlolciekimaaGreatDoorQUn
namespace Go.Proofs.YtlimlolciekimaaGreatDoor
set_option maxHeartbeats 1600000
open Go.ChangeShapes Go.WideShapes Go.ChangeAt Go.RowKit
set_option linter.unusedVariables false
set_option linter.unusedSimpArgs false
set_option maxRecDepth 10000
theorem i_BuyPaper (d1 f1:Int) (ss1:List ByteArray) (d2 f2:Int) (ss2:List ByteArray) (st:List PStep) (P:List PItem) (pp:List PPaper) (m:Int) (k n:Int) (B:Nat) (A1 A2 A3 A4 A5:Option Addr) (c1 c2 c3 c4 c5:Nat) (w:World) (hS:RdWork w B A1 A2 A3 A4 c4 A5 ⟨d1,f1,ss1,d2,f2,ss2,st⟩ P pp) (hB:B≤w.heap.size) (hok:OkWork (PDraft.mk d1 f1 ss1 d2 f2 ss2 st) P pp 1048576) :
  Calls Tryz.prog 141 #[.agg #[.int .i64 d1,.int .i64 f1,.slice A1 ss1.length c1,.int .i64 d2,.int .i64 f2,.slice A2 ss2.length c2,.slice A3 st.length c3,.slice A4 P.length c4,.slice A5 pp.length c5,.int .i64 m],.int .i64 k,.int .i64 n] w (UWorkB (buyRes (PWork.mk (PDraft.mk d1 f1 ss1 d2 f2 ss2 st) P pp m) k n).1.D.d1 (buyRes (PWork.mk (PDraft.mk d1 f1 ss1 d2 f2 ss2 st) P pp m) k n).1.D.f1 (buyRes (PWork.mk (PDraft.mk d1 f1 ss1 d2 f2 ss2 st) P pp m) k n).1.D.ss1 (buyRes (PWork.mk (PDraft.mk d1 f1 ss1 d2 f2 ss2 st) P pp m) k n).1.D.d2 (buyRes (PWork.mk (PDraft.mk d1 f1 ss1 d2 f2 ss2 st) P pp m) k n).1.D.f2 (buyRes (PWork.mk (PDraft.mk d1 f1 ss1 d2 f2 ss2 st) P pp m) k n).1.D.ss2 (buyRes (PWork.mk (PDraft.mk d1 f1 ss1 d2 f2 ss2 st) P pp m) k n).1.D.st (buyRes (PWork.mk (PDraft.mk d1 f1 ss1 d2 f2 ss2 st) P pp m) k n).1.P (buyRes (PWork.mk (PDraft.mk d1 f1 ss1 d2 f2 ss2 st) P pp m) k n).1.pp (buyRes (PWork.mk (PDraft.mk d1 f1 ss1 d2 f2 ss2 st) P pp m) k n).1.m (buyRes (PWork.mk (PDraft.mk d1 f1 ss1 d2 f2 ss2 st) P pp m) k n).2 w):=by
 obtain ⟨i0,hi0,hz0,hz1,hz2⟩:=info_parts info_paperCells
 have hn1:=fun h=>buy_n1 (W:=(PWork.mk (PDraft.mk d1 f1 ss1 d2 f2 ss2 st) P pp m)) (k:=k) (n:=n) h
 obtain ⟨mo,hmo⟩:∃ mo,IntKind.i64.wrap (m - 2 * n)=mo:=⟨_,rfl⟩
 have hyes:=fun hi h=>buy_yes (W:=(PWork.mk (PDraft.mk d1 f1 ss1 d2 f2 ss2 st) P pp m)) (k:=k) (n:=n) hi hmo h
 have hno:=fun hi h=>buy_no (W:=(PWork.mk (PDraft.mk d1 f1 ss1 d2 f2 ss2 st) P pp m)) (k:=k) (n:=n) hi hmo h
 simp only at hyes hno
 generalize buyRes (PWork.mk (PDraft.mk d1 f1 ss1 d2 f2 ss2 st) P pp m) k n=R at *
 have HOK:=hide hok
 clear hok
 cases hi:inB n 1 1000
 case false =>
  have HR4:=Lib.hid (hn1 hi)
  have HI:=Lib.hid hi
  clear hn1 hyes hno hi
  go_enter Tryz.func141,Tryz.ntmps141
  go_wp2_with (go_at_call 71;refine (i_within _ _ _ _).mono ?_;rintro e w' ⟨rfl,rfl⟩;rw [HI.out])
  generalize e_:(World.alloc _ _)=w1
  symm at e_
  have k_a:=hkc e_ (blk_alloc (bnk w.heap.size) _)
  have k_r:=hkc e_ (bnk (w.heap.size+1))
  have hX_:Boxy w w1:=by rw [e_];exact boxy
  have hb_:Below w.heap.size w w1:=by rw [e_];exact bel
  have c_w1:=hX_.size
  clear e_ hX_
  refine (i_workCopied d1 f1 ss1 d2 f2 ss2 st P pp m B A1 A2 A3 A4 A5 c1 c2 c3 c4 c5 w1 (hS.below (hb_.mono hB)) (Nat.le_trans hB hb_.size)).mono ?_
  rintro e w2 ⟨B1,e1,B2q,e2,B3,e3,B4,e4,B5,e5,rfl,hon,b_⟩
  replace k_a:=blk_next k_a b_
  replace k_r:=blk_next k_r b_
  have c_w2:=b_.size
  replace hb_:=hb_.trans (b_.mono hb_.size)
  clear b_
  have o_c:=hon
  clear hon
  obtain ⟨⟨x0r,x1r,x2r,x3r,x4r,x5r,x6r,x7r,x8r,x9r,xlr⟩,f0r,f1r,f2r,f3r,f4r,f5r,f6r,f7r,f8r,f9r⟩:=ba10 k_r
  go_wp2
  refine bodyPost_ret (v:=.tuple #[.agg #[.int .i64 d1,.int .i64 f1,.slice B1 ss1.length e1,.int .i64 d2,.int .i64 f2,.slice B2q ss2.length e2,.slice B3 st.length e3,.slice B4 P.length e4,.slice B5 pp.length e5,.int .i64 m],.bool false]) (by simp [results,Tryz.results141,go_sem, *]) rfl ?_
  clear x0r x1r x2r x3r x4r x5r x6r x7r x8r x9r xlr f0r f1r f2r f3r f4r f5r f6r f7r f8r f9r
  have o9_:OwnW w2 w.heap.size w2.heap.size B1 e1 B2q e2 B3 e3 B4 e4 B5 e5 (PDraft.mk d1 f1 ss1 d2 f2 ss2 st) P pp:=o_c.wide (by omega) (by omega)
  exact uwb_cast HR4.out ⟨B1,e1,B2q,e2,B3,e3,B4,e4,B5,e5,rfl,endw k_r o9_ hb_ (by omega)⟩
 case true =>
  have hnb:=inB_iff'.1 hi
  have hw5:IntKind.i64.wrap (2 * n)=2 * n:=by rw [IntKind.wrap_i64];omega
  clear hnb
  cases hc:(true&&(workOk (PWork.mk (PDraft.mk d1 f1 ss1 d2 f2 ss2 st) P pp m)&&workOk (PWork.mk (PDraft.mk d1 f1 ss1 d2 f2 ss2 st) P (pp++[(⟨k,100,n⟩:PPaper)]) mo)))
  case false =>
   have HR4:=Lib.hid (hno hi hc)
   have HN:=Lib.hid hc
   have HI:=Lib.hid hi
   clear hn1 hyes hno hi hc
   go_enter Tryz.func141,Tryz.ntmps141
   go_wp2_with (go_at_call 71;refine (i_within _ _ _ _).mono ?_;rintro e w' ⟨rfl,rfl⟩;rw [HI.out])
   generalize e_:(World.alloc _ _)=w1
   symm at e_
   have k_a:=hkc e_ (blk_alloc (bnk w.heap.size) _)
   have k_r:=hkc e_ (bnk (w.heap.size+1))
   have hX_:Boxy w w1:=by rw [e_];exact boxy
   have hb_:Below w.heap.size w w1:=by rw [e_];exact bel
   have c_w1:=hX_.size
   clear e_ hX_
   refine (i_workCopied d1 f1 ss1 d2 f2 ss2 st P pp m B A1 A2 A3 A4 A5 c1 c2 c3 c4 c5 w1 (hS.below (hb_.mono hB)) (Nat.le_trans hB hb_.size)).mono ?_
   rintro e w2 ⟨B1,e1,B2q,e2,B3,e3,B4,e4,B5,e5,rfl,hon,b_⟩
   obtain ⟨l1,h1_,l2,h2_,l3,h3_,L4,hr,ha,hx,hp4,hy,hz⟩:=hon.all
   have HP4:=Lib.hid hp4
   have HR:=hide hr
   have HA:=hide ha
   clear hon hr ha hp4
   replace k_a:=blk_next k_a b_
   replace k_r:=blk_next k_r b_
   have c_w2:=b_.size
   replace hb_:=hb_.trans (b_.mono hb_.size)
   clear b_
   have o_x:=hx
   clear hx
   have o_y:=hy
   clear hy
   have o_z:=hz
   clear hz
   go_wp2_with (at_builtin;refine unhide ?_)
   have l_a:=blk_lt k_a
   have l_r:=blk_lt k_r
   have lt_a_w3:=blk_lt k_a
   have lt_r_w3:=blk_lt k_r
   generalize e_:(World.alloc _ _)=w3
   symm at e_
   replace k_a:=hkc e_ (blk_alloc (blk_alloc k_a _) _)
   replace k_r:=hkc e_ (blk_alloc (blk_alloc k_r _) _)
   have k_o:=hkc e_ (blk_alloc (bnk w2.heap.size) _)
   have k_lit:=hkc e_ (bnk (w2.heap.size+1))
   have hX_:Boxy w2 w3:=by rw [e_];exact boxy
   replace o_x:=o_x.boxy hX_
   replace o_y:=o_y.boxy hX_
   replace o_z:=o_z.boxy hX_
   replace hb_:Below w.heap.size w w3:=by rw [e_];exact bel
   have c_w3:=hX_.size
   clear l_a l_r e_ hX_
   have hRL:=reads_blk k_lit (n:=1) (size:=3) rfl
   have hrz:=unhide HR
   have hZ:=own_base (base':=w.heap.size) o_z.row (by omega)
   refine hide ?_
   refine wpList_append_any _ rfl (.tmp 17) (.tmp 21) _ rfl w.heap.size 105 i0 _ 3 24 Tryz.underlying31 hi0 hz0 hz1 hz2 rfl (by omega) (.slice B5 pp.length e5) pp.length (pp.flatMap paperCells) rfl hZ w3.heap.size (some ⟨w2.heap.size+1,0,none⟩) 1 1 [.int .i64 k,.int .i64 100,.int .i64 n] rfl hRL (by intro u hu;simp at hu;rcases hu with rfl|rfl|rfl <;> rfl) (by have:=(unhide HOK).p;unfold maxLen;omega) (by have:=(unhide HOK).p;omega) hb_.size ?_
   intro vz w4 hz2q hgz hatz
   have hz3q:w4.ownsRow w.heap.size 105 3 vz (pp.length+1) ((pp++[(⟨k,100,n⟩:PPaper)]).flatMap paperCells):=by rw [flat_snoc];exact hz2q
   obtain ⟨E5,g5,kz,rfl,hoq,hkz,hkz2⟩:=o_z.appended hz3q (by simp) (by omega) hatz
   have hzl:(pp++[(⟨k,100,n⟩:PPaper)]).length=pp.length+1:=by simp
   clear hz2q hz3q hatz
   have qba:=blk_markedk k_a hgz hZ (by decide)
   have qca:=blk_markedk k_r hgz hZ (by decide)
   have qaa:=blk_markedk k_o hgz hZ (by decide)
   have qda:=o_x.grownP hZ hgz
   have qea:=o_y.grownP hZ hgz
   have qfa:Below w.heap.size w w4:=hb_.trans (grown_below hgz (fun j hj=>(hZ.lt j hj).1) hb_.size)
   have qga:=qfa.size
   have qha:w3.heap.size≤w4.heap.size:=hgz.size
   clear k_a k_r k_o k_lit o_x o_y o_z hb_ hRL hZ hgz hrz
   obtain ⟨x0a,x1a,x2a,x3a,x4a,x5a,x6a,x7a,x8a,x9a,xla⟩:=blk10 qba
   obtain ⟨⟨x0o,x1o,x2o,x3o,x4o,x5o,x6o,x7o,x8o,x9o,xlo⟩,f0o,f1o,f2o,f3o,f4o,f5o,f6o,f7o,f8o,f9o⟩:=ba10 qaa
   go_wp2_with fail
   clear x0a x1a x2a x3a x4a x5a x6a x7a x8a x9a xla x0o x1o x2o x3o x4o x5o x6o x7o x8o x9o xlo f0o f1o f2o f3o f4o f5o f6o f7o f8o f9o
   have l_a:=blk_lt qba
   have l_r:=blk_lt qca
   have l_o:=blk_lt qaa
   have bx_o:=boxAt_of qaa
   generalize e_:(World.setCell _ _ _)=w5
   symm at e_
   have k_a:=hkc e_ (blk_other (blk_other qba (show ¬w.heap.size=w2.heap.size by omega) _) (show ¬w.heap.size=w2.heap.size by omega) _)
   have k_r:=hkc e_ (blk_other (blk_other qca (show ¬w.heap.size+1=w2.heap.size by omega) _) (show ¬w.heap.size+1=w2.heap.size by omega) _)
   have k_o:w5.heap[w2.heap.size]?=some (.cells #[.int .i64 d1,.int .i64 f1,.slice B1 ss1.length e1,.int .i64 d2,.int .i64 f2,.slice B2q ss2.length e2,.slice B3 st.length e3,.slice B4 P.length e4,.slice E5 (pp.length+1) g5,.int .i64 mo] 33 (0,0)):=by rw [e_];have hq9:=(blk_set (blk_set qaa 8 (.slice E5 (pp.length+1) g5)) 9 (.int .i64 mo));simpa using hq9
   have hX_:Boxy w4 w5:=by rw [e_];exact boxy
   have o_x:=qda.boxy hX_
   have o_y:=qea.boxy hX_
   have o_q:=hoq.boxy hX_
   have hb_:Below w.heap.size w w5:=by rw [e_];exact bel
   have c_w5:=hX_.size
   clear l_a l_r l_o bx_o e_ qba qca qaa hX_ qda qea hoq qfa
   rw [← hzl]
   refine (i_wchanged_no d1 f1 ss1 d2 f2 ss2 st P pp m d1 f1 ss1 d2 f2 ss2 st P (pp++[(⟨k,100,n⟩:PPaper)]) mo A1 A2 A3 A4 A5 c1 c2 c3 c4 c5 B1 B2q B3 B4 E5 e1 e2 e3 e4 g5 true B w5.heap.size w5 (hS.below (hb_.mono hB)) (Nat.le_trans hB hb_.size) ⟨o_x.rd ((unhide HOK).d.more (by omega)),⟨L4,HP4.out,o_y.rdP HP4.out ((unhide HOK).i.more (by omega))⟩,o_q.rd (by have:=(unhide HOK).p;omega),own_capU o_y.row⟩ (Nat.le_refl _) HN.out).mono ?_
   rintro e w6 ⟨G1,k1,G2,k2,G3,k3,G4,k4,G5,k5,rfl,hon3,b_⟩
   replace k_a:=blk_next k_a b_
   replace k_r:=blk_next k_r b_
   replace k_o:=blk_next k_o b_
   replace o_x:=o_x.below b_
   replace o_y:=o_y.below b_
   replace o_q:=o_q.below b_
   have c_w6:=b_.size
   replace hb_:=hb_.trans (b_.mono hb_.size)
   clear b_
   have o_n:=hon3
   clear hon3
   clear o_x
   clear o_y
   clear o_q
   obtain ⟨⟨x0r,x1r,x2r,x3r,x4r,x5r,x6r,x7r,x8r,x9r,xlr⟩,f0r,f1r,f2r,f3r,f4r,f5r,f6r,f7r,f8r,f9r⟩:=ba10 k_r
   go_wp2
   refine bodyPost_ret (v:=.tuple #[.agg #[.int .i64 d1,.int .i64 f1,.slice G1 ss1.length k1,.int .i64 d2,.int .i64 f2,.slice G2 ss2.length k2,.slice G3 st.length k3,.slice G4 P.length k4,.slice G5 pp.length k5,.int .i64 m],.bool false]) (by simp [results,Tryz.results141,go_sem, *]) rfl ?_
   clear x0r x1r x2r x3r x4r x5r x6r x7r x8r x9r xlr f0r f1r f2r f3r f4r f5r f6r f7r f8r f9r
   have o9_:OwnW w6 w.heap.size w6.heap.size G1 k1 G2 k2 G3 k3 G4 k4 G5 k5 (PDraft.mk d1 f1 ss1 d2 f2 ss2 st) P pp:=o_n.wide (by omega) (by omega)
   exact uwb_cast HR4.out ⟨G1,k1,G2,k2,G3,k3,G4,k4,G5,k5,rfl,endw k_r o9_ hb_ (by omega)⟩
  case true =>
   obtain ⟨hw1,hw2,hr4⟩:=hyes hi hc
   have HR4:=Lib.hid hr4
   have HW1:=Lib.hid hw1
   have HW2:=Lib.hid hw2
   have HI:=Lib.hid hi
   clear hn1 hyes hno hi hc hr4 hw1 hw2
   go_enter Tryz.func141,Tryz.ntmps141
   go_wp2_with (go_at_call 71;refine (i_within _ _ _ _).mono ?_;rintro e w' ⟨rfl,rfl⟩;rw [HI.out])
   generalize e_:(World.alloc _ _)=w1
   symm at e_
   have k_a:=hkc e_ (blk_alloc (bnk w.heap.size) _)
   have k_r:=hkc e_ (bnk (w.heap.size+1))
   have hX_:Boxy w w1:=by rw [e_];exact boxy
   have hb_:Below w.heap.size w w1:=by rw [e_];exact bel
   have c_w1:=hX_.size
   clear e_ hX_
   refine (i_workCopied d1 f1 ss1 d2 f2 ss2 st P pp m B A1 A2 A3 A4 A5 c1 c2 c3 c4 c5 w1 (hS.below (hb_.mono hB)) (Nat.le_trans hB hb_.size)).mono ?_
   rintro e w2 ⟨B1,e1,B2q,e2,B3,e3,B4,e4,B5,e5,rfl,hon,b_⟩
   obtain ⟨l1,h1_,l2,h2_,l3,h3_,L4,hr,ha,hx,hp4,hy,hz⟩:=hon.all
   have HP4:=Lib.hid hp4
   have HR:=hide hr
   have HA:=hide ha
   clear hon hr ha hp4
   replace k_a:=blk_next k_a b_
   replace k_r:=blk_next k_r b_
   have c_w2:=b_.size
   replace hb_:=hb_.trans (b_.mono hb_.size)
   clear b_
   have o_x:=hx
   clear hx
   have o_y:=hy
   clear hy
   have o_z:=hz
   clear hz
   go_wp2_with (at_builtin;refine unhide ?_)
   have l_a:=blk_lt k_a
   have l_r:=blk_lt k_r
   have lt_a_w3:=blk_lt k_a
   have lt_r_w3:=blk_lt k_r
   generalize e_:(World.alloc _ _)=w3
   symm at e_
   replace k_a:=hkc e_ (blk_alloc (blk_alloc k_a _) _)
   replace k_r:=hkc e_ (blk_alloc (blk_alloc k_r _) _)
   have k_o:=hkc e_ (blk_alloc (bnk w2.heap.size) _)
   have k_lit:=hkc e_ (bnk (w2.heap.size+1))
   have hX_:Boxy w2 w3:=by rw [e_];exact boxy
   replace o_x:=o_x.boxy hX_
   replace o_y:=o_y.boxy hX_
   replace o_z:=o_z.boxy hX_
   replace hb_:Below w.heap.size w w3:=by rw [e_];exact bel
   have c_w3:=hX_.size
   clear l_a l_r e_ hX_
   have hRL:=reads_blk k_lit (n:=1) (size:=3) rfl
   have hrz:=unhide HR
   have hZ:=own_base (base':=w.heap.size) o_z.row (by omega)
   refine hide ?_
   refine wpList_append_any _ rfl (.tmp 17) (.tmp 21) _ rfl w.heap.size 105 i0 _ 3 24 Tryz.underlying31 hi0 hz0 hz1 hz2 rfl (by omega) (.slice B5 pp.length e5) pp.length (pp.flatMap paperCells) rfl hZ w3.heap.size (some ⟨w2.heap.size+1,0,none⟩) 1 1 [.int .i64 k,.int .i64 100,.int .i64 n] rfl hRL (by intro u hu;simp at hu;rcases hu with rfl|rfl|rfl <;> rfl) (by have:=(unhide HOK).p;unfold maxLen;omega) (by have:=(unhide HOK).p;omega) hb_.size ?_
   intro vz w4 hz2q hgz hatz
   have hz3q:w4.ownsRow w.heap.size 105 3 vz (pp.length+1) ((pp++[(⟨k,100,n⟩:PPaper)]).flatMap paperCells):=by rw [flat_snoc];exact hz2q
   obtain ⟨E5,g5,kz,rfl,hoq,hkz,hkz2⟩:=o_z.appended hz3q (by simp) (by omega) hatz
   have hzl:(pp++[(⟨k,100,n⟩:PPaper)]).length=pp.length+1:=by simp
   clear hz2q hz3q hatz
   have qba:=blk_markedk k_a hgz hZ (by decide)
   have qca:=blk_markedk k_r hgz hZ (by decide)
   have qaa:=blk_markedk k_o hgz hZ (by decide)
   have qda:=o_x.grownP hZ hgz
   have qea:=o_y.grownP hZ hgz
   have qfa:Below w.heap.size w w4:=hb_.trans (grown_below hgz (fun j hj=>(hZ.lt j hj).1) hb_.size)
   have qga:=qfa.size
   have qha:w3.heap.size≤w4.heap.size:=hgz.size
   clear k_a k_r k_o k_lit o_x o_y o_z hb_ hRL hZ hgz hrz
   obtain ⟨x0a,x1a,x2a,x3a,x4a,x5a,x6a,x7a,x8a,x9a,xla⟩:=blk10 qba
   obtain ⟨⟨x0o,x1o,x2o,x3o,x4o,x5o,x6o,x7o,x8o,x9o,xlo⟩,f0o,f1o,f2o,f3o,f4o,f5o,f6o,f7o,f8o,f9o⟩:=ba10 qaa
   go_wp2_with fail
   clear x0a x1a x2a x3a x4a x5a x6a x7a x8a x9a xla x0o x1o x2o x3o x4o x5o x6o x7o x8o x9o xlo f0o f1o f2o f3o f4o f5o f6o f7o f8o f9o
   have l_a:=blk_lt qba
   have l_r:=blk_lt qca
   have l_o:=blk_lt qaa
   have bx_o:=boxAt_of qaa
   generalize e_:(World.setCell _ _ _)=w5
   symm at e_
   have k_a:=hkc e_ (blk_other (blk_other qba (show ¬w.heap.size=w2.heap.size by omega) _) (show ¬w.heap.size=w2.heap.size by omega) _)
   have k_r:=hkc e_ (blk_other (blk_other qca (show ¬w.heap.size+1=w2.heap.size by omega) _) (show ¬w.heap.size+1=w2.heap.size by omega) _)
   have k_o:w5.heap[w2.heap.size]?=some (.cells #[.int .i64 d1,.int .i64 f1,.slice B1 ss1.length e1,.int .i64 d2,.int .i64 f2,.slice B2q ss2.length e2,.slice B3 st.length e3,.slice B4 P.length e4,.slice E5 (pp.length+1) g5,.int .i64 mo] 33 (0,0)):=by rw [e_];have hq9:=(blk_set (blk_set qaa 8 (.slice E5 (pp.length+1) g5)) 9 (.int .i64 mo));simpa using hq9
   have hX_:Boxy w4 w5:=by rw [e_];exact boxy
   have o_x:=qda.boxy hX_
   have o_y:=qea.boxy hX_
   have o_q:=hoq.boxy hX_
   have hb_:Below w.heap.size w w5:=by rw [e_];exact bel
   have c_w5:=hX_.size
   clear l_a l_r l_o bx_o e_ qba qca qaa hX_ qda qea hoq qfa
   rw [← hzl]
   refine (i_wchanged_yes d1 f1 ss1 d2 f2 ss2 st P pp m d1 f1 ss1 d2 f2 ss2 st P (pp++[(⟨k,100,n⟩:PPaper)]) mo A1 A2 A3 A4 A5 c1 c2 c3 c4 c5 B1 B2q B3 B4 E5 e1 e2 e3 e4 g5 B w5.heap.size w5 (hS.below (hb_.mono hB)) (Nat.le_trans hB hb_.size) ⟨o_x.rd ((unhide HOK).d.more (by omega)),⟨L4,HP4.out,o_y.rdP HP4.out ((unhide HOK).i.more (by omega))⟩,o_q.rd (by have:=(unhide HOK).p;omega),own_capU o_y.row⟩ (Nat.le_refl _) HW1.out HW2.out).mono ?_
   rintro e w6 ⟨rfl,b_⟩
   replace k_a:=blk_next k_a b_
   replace k_r:=blk_next k_r b_
   replace k_o:=blk_next k_o b_
   replace o_x:=o_x.below b_
   replace o_y:=o_y.below b_
   replace o_q:=o_q.below b_
   have c_w6:=b_.size
   replace hb_:=hb_.trans (b_.mono hb_.size)
   clear b_
   obtain ⟨⟨x0r,x1r,x2r,x3r,x4r,x5r,x6r,x7r,x8r,x9r,xlr⟩,f0r,f1r,f2r,f3r,f4r,f5r,f6r,f7r,f8r,f9r⟩:=ba10 k_r
   go_wp2
   have qia:=boxAt_of k_r
   refine bodyPost_ret (v:=.tuple #[.agg #[.int .i64 d1,.int .i64 f1,.slice B1 ss1.length e1,.int .i64 d2,.int .i64 f2,.slice B2q ss2.length e2,.slice B3 st.length e3,.slice B4 P.length e4,.slice E5 (pp.length+1) g5,.int .i64 mo],.bool true]) (by simp [results,Tryz.results141,go_sem, *]) rfl ?_
   clear x0r x1r x2r x3r x4r x5r x6r x7r x8r x9r xlr f0r f1r f2r f3r f4r f5r f6r f7r f8r f9r
   obtain ⟨wE,heE⟩:∃ x,x=((((((((((w6.setCell ⟨w.heap.size+1,0,none⟩ (.int .i64 d1)).setCell ⟨w.heap.size+1,1,none⟩ (.int .i64 f1)).setCell ⟨w.heap.size+1,2,none⟩ (.slice B1 ss1.length e1)).setCell ⟨w.heap.size+1,3,none⟩ (.int .i64 d2)).setCell ⟨w.heap.size+1,4,none⟩ (.int .i64 f2)).setCell ⟨w.heap.size+1,5,none⟩ (.slice B2q ss2.length e2)).setCell ⟨w.heap.size+1,6,none⟩ (.slice B3 st.length e3)).setCell ⟨w.heap.size+1,7,none⟩ (.slice B4 P.length e4)).setCell ⟨w.heap.size+1,8,none⟩ (.slice E5 (pp.length+1) g5)).setCell ⟨w.heap.size+1,9,none⟩ (.int .i64 mo)):=⟨_,rfl⟩
   have hBX:Boxy w6 wE:=by rw [heE];exact boxy
   have hBW:Below w.heap.size w wE:=by rw [heE];exact bel
   have hsE:wE.heap.size=w6.heap.size:=by rw [heE];simp [World.setCell]
   rw [← heE]
   clear heE
   have hr1:=unhide HR
   have ha1:=unhide HA
   have hOW:OwnW wE w.heap.size wE.heap.size B1 e1 B2q e2 B3 e3 B4 e4 E5 g5 (PDraft.mk d1 f1 ss1 d2 f2 ss2 st) P (pp++[(⟨k,100,n⟩:PPaper)]):=OwnW.mk3 (o_x.boxy hBX) HP4.out (o_y.boxy hBX) (o_q.boxy hBX) (by omega) (by omega)
   exact uwb_cast HR4.out ⟨B1,e1,B2q,e2,B3,e3,B4,e4,E5,g5,by simp,hOW,hBW⟩
end Go.Proofs.YtlimlolciekimaaGreatDoor
