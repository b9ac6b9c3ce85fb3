/- The contract of MakeCopies (the reference). -/
import Derived.Test.YtlimlolciekimaaGreatDoorRows
import Derived.Test.YtlimlolciekimaaGreatDoorQRn
import Derived.Test.YtlimlolciekimaaGreatDoorQRm
import Derived.Test.YtlimlolciekimaaGreatDoorQRl
namespace Go.Proofs.YtlimlolciekimaaGreatDoor
set_option maxHeartbeats 1600000
open Go.ChangeShapes Go.WideShapes Go.ChangeAt Go.RowKit
set_option linter.unusedVariables false
set_option linter.unusedSimpArgs false
set_option maxRecDepth 10000
theorem ZjE (d1 f1:Int) (ss1:List ByteArray) (d2 f2:Int) (ss2:List ByteArray) (st:List Zv) (P:List Zr) (pp:List Zt) (m:Int) (nm:ByteArray) (k n:Int) (B:Nat) (A1 A2 A3 A4 A5:Option Addr) (c1 c2 c3 c4 c5:Nat) (w:World) (hS:ZaF w B A1 A2 A3 A4 c4 A5 ⟨d1,f1,ss1,d2,f2,ss2,st⟩ P pp) (hB:B≤w.heap.size) (hok:ZaI (Zd.mk d1 f1 ss1 d2 f2 ss2 st) P pp 1048576) :
  Calls Tryz.prog 177 #[.agg #[.int .i64 d1,.int .i64 f1,.slice A1 ss1.length c1,.int .i64 d2,.int .i64 f2,.slice A2 ss2.length c2,.slice A3 st.length c3,.slice A4 P.length c4,.slice A5 pp.length c5,.int .i64 m],.string nm,.int .i64 k,.int .i64 n] w (Zcm (Zat (Zh.mk (Zd.mk d1 f1 ss1 d2 f2 ss2 st) P pp m) nm k n).1.D.d1 (Zat (Zh.mk (Zd.mk d1 f1 ss1 d2 f2 ss2 st) P pp m) nm k n).1.D.f1 (Zat (Zh.mk (Zd.mk d1 f1 ss1 d2 f2 ss2 st) P pp m) nm k n).1.D.ss1 (Zat (Zh.mk (Zd.mk d1 f1 ss1 d2 f2 ss2 st) P pp m) nm k n).1.D.d2 (Zat (Zh.mk (Zd.mk d1 f1 ss1 d2 f2 ss2 st) P pp m) nm k n).1.D.f2 (Zat (Zh.mk (Zd.mk d1 f1 ss1 d2 f2 ss2 st) P pp m) nm k n).1.D.ss2 (Zat (Zh.mk (Zd.mk d1 f1 ss1 d2 f2 ss2 st) P pp m) nm k n).1.D.st (Zat (Zh.mk (Zd.mk d1 f1 ss1 d2 f2 ss2 st) P pp m) nm k n).1.P (Zat (Zh.mk (Zd.mk d1 f1 ss1 d2 f2 ss2 st) P pp m) nm k n).1.pp (Zat (Zh.mk (Zd.mk d1 f1 ss1 d2 f2 ss2 st) P pp m) nm k n).1.m (Zat (Zh.mk (Zd.mk d1 f1 ss1 d2 f2 ss2 st) P pp m) nm k n).2 w):=by
 obtain ⟨L0,hpl,hL0⟩:=hS.i
 have HPL:=Lib.hid hpl
 clear hpl
 have hcn:=fun (W:World) (hW:Below w.heap.size w W)=>ZkD nm P B A4 P.length c4 L0 W HPL.out (hL0.below (hW.mono hB)) (Nat.le_trans hB hW.size)
 have hus:=fun (W:World) (hW:Below w.heap.size w W)=>Zlr pp k n B A5 c5 W (hS.p.below (hW.mono hB)) (Nat.le_trans hB hW.size)
 have hul:(ZbD pp k n).1.length≤1048576:=by rw [ZdS];exact hok.p
 have hn1:=fun h=>Zmx (W:=(Zh.mk (Zd.mk d1 f1 ss1 d2 f2 ss2 st) P pp m)) (nm:=nm) (k:=k) (n:=n) h
 have hn2:=fun h=>ZmD (W:=(Zh.mk (Zd.mk d1 f1 ss1 d2 f2 ss2 st) P pp m)) (nm:=nm) (k:=k) (n:=n) h
 have hn3:=fun h=>ZoN (W:=(Zh.mk (Zd.mk d1 f1 ss1 d2 f2 ss2 st) P pp m)) (nm:=nm) (k:=k) (n:=n) h
 have hn4:=fun h=>ZoW (W:=(Zh.mk (Zd.mk d1 f1 ss1 d2 f2 ss2 st) P pp m)) (nm:=nm) (k:=k) (n:=n) h
 have hn5:=fun h=>Zo5 (W:=(Zh.mk (Zd.mk d1 f1 ss1 d2 f2 ss2 st) P pp m)) (nm:=nm) (k:=k) (n:=n) h
 have hy:=fun h1 h2 h3 h4 h5=>Zod (W:=(Zh.mk (Zd.mk d1 f1 ss1 d2 f2 ss2 st) P pp m)) (nm:=nm) (k:=k) (n:=n) h1 h2 h3 h4 h5
 simp only at hn2 hn3 hn4 hn5 hy
 generalize Zat (Zh.mk (Zd.mk d1 f1 ss1 d2 f2 ss2 st) P pp m) nm k n=R at *
 generalize named P nm=N at *
 generalize ZbD pp k n=q at *
 obtain ⟨⟨dn,fn⟩,ssn,bn⟩:=N
 obtain ⟨ppq,bq⟩:=q
 simp only at hcn hus hul hn2 hn3 hn4 hn5 hy
 have HCN:=Zk hcn
 have HUS:=Zk hus
 have HUL:=Zk hul
 have HOK:=Zk hok
 clear hcn hus hul hok hL0
 cases hw1:Zp (Zh.mk (Zd.mk d1 f1 ss1 d2 f2 ss2 st) P pp m)
 case false =>
  have HR4:=Lib.hid (hn3 hw1)
  have HW1:=Lib.hid hw1
  clear hn1 hn2 hn3 hn4 hn5 hy hw1
  go_enter Tryz.func177,Tryz.ntmps177
  go_wp2_with fail
  generalize e_:(World.alloc _ _)=w1
  symm at e_
  have k_a:=hkc e_ (Zb (bnk w.heap.size) _)
  have k_r:=hkc e_ (bnk (w.heap.size+1))
  have hX_:Zj w w1:=by rw [e_];exact boxy
  have hb_:Below w.heap.size w w1:=by rw [e_];exact bel
  have c_w1:=hX_.size
  clear e_ hX_
  refine (Zaz d1 f1 ss1 d2 f2 ss2 st P pp m B A1 A2 A3 A4 A5 c1 c2 c3 c4 c5 w1 (hS.below (hb_.mono hB)) (Nat.le_trans hB hb_.size)).mono ?_
  rintro e w2 ⟨B1,e1,B2q,e2,B3,e3,B4,e4,B5,e5,rfl,hon,b_⟩
  replace k_a:=Za k_a b_
  replace k_r:=Za k_r b_
  have c_w2:=b_.size
  replace hb_:=hb_.trans (b_.mono hb_.size)
  clear b_
  have o_c:=hon
  clear hon
  obtain ⟨x0a,x1a,x2a,x3a,x4a,x5a,x6a,x7a,x8a,x9a,xla⟩:=Zq k_a
  go_wp2_with fail
  clear x0a x1a x2a x3a x4a x5a x6a x7a x8a x9a xla
  have l_a:=Zg k_a
  have l_r:=Zg k_r
  have lt_a_w3:=Zg k_a
  have lt_r_w3:=Zg k_r
  generalize e_:(World.alloc _ _)=w3
  symm at e_
  replace k_a:=hkc e_ (Zb k_a _)
  replace k_r:=hkc e_ (Zb k_r _)
  have k_o:=hkc e_ (bnk w2.heap.size)
  have hX_:Zj w2 w3:=by rw [e_];exact boxy
  replace o_c:=o_c.boxy hX_
  replace hb_:Below w.heap.size w w3:=by rw [e_];exact bel
  have c_w3:=hX_.size
  clear l_a l_r e_ hX_
  refine (Zz d1 f1 ss1 d2 f2 ss2 st P pp m B A1 A2 A3 A4 A5 c1 c2 c3 c4 c5 w3 (hS.below (hb_.mono hB)) (Nat.le_trans hB hb_.size)).mono ?_
  rw [HW1.out]
  rintro e w4 ⟨rfl,b_⟩
  replace k_a:=Za k_a b_
  replace k_r:=Za k_r b_
  replace k_o:=Za k_o b_
  replace o_c:=o_c.below b_
  have c_w4:=b_.size
  replace hb_:=hb_.trans (b_.mono hb_.size)
  clear b_
  obtain ⟨x0o,x1o,x2o,x3o,x4o,x5o,x6o,x7o,x8o,x9o,xlo⟩:=Zq k_o
  obtain ⟨⟨x0r,x1r,x2r,x3r,x4r,x5r,x6r,x7r,x8r,x9r,xlr⟩,f0r,f1r,f2r,f3r,f4r,f5r,f6r,f7r,f8r,f9r⟩:=Za2 k_r
  go_wp2
  refine bodyPost_ret (v:=.tuple #[.agg #[.int .i64 d1,.int .i64 f1,.slice B1 ss1.length e1,.int .i64 d2,.int .i64 f2,.slice B2q ss2.length e2,.slice B3 st.length e3,.slice B4 P.length e4,.slice B5 pp.length e5,.int .i64 m],.bool false]) (by simp [results,Tryz.results177,go_sem, *]) rfl ?_
  clear x0o x1o x2o x3o x4o x5o x6o x7o x8o x9o xlo x0r x1r x2r x3r x4r x5r x6r x7r x8r x9r xlr f0r f1r f2r f3r f4r f5r f6r f7r f8r f9r
  have o9_:Zau w4 w.heap.size w4.heap.size B1 e1 B2q e2 B3 e3 B4 e4 B5 e5 (Zd.mk d1 f1 ss1 d2 f2 ss2 st) P pp:=o_c.wide (by omega) (by omega)
  exact Zaq HR4.out ⟨B1,e1,B2q,e2,B3,e3,B4,e4,B5,e5,rfl,Zcp k_r o9_ hb_ (by omega)⟩
 case true =>
  have hmb:=Zcw hw1
  simp only at hmb
  cases hi:inB n 1 1000
  case false =>
   have HR4:=Lib.hid (hn1 hi)
   have HW1:=Lib.hid hw1
   have HI:=Lib.hid hi
   clear hn1 hn2 hn3 hn4 hn5 hy hw1 hi
   go_enter Tryz.func177,Tryz.ntmps177
   go_wp2_with fail
   generalize e_:(World.alloc _ _)=w1
   symm at e_
   have k_a:=hkc e_ (Zb (bnk w.heap.size) _)
   have k_r:=hkc e_ (bnk (w.heap.size+1))
   have hX_:Zj w w1:=by rw [e_];exact boxy
   have hb_:Below w.heap.size w w1:=by rw [e_];exact bel
   have c_w1:=hX_.size
   clear e_ hX_
   refine (Zaz d1 f1 ss1 d2 f2 ss2 st P pp m B A1 A2 A3 A4 A5 c1 c2 c3 c4 c5 w1 (hS.below (hb_.mono hB)) (Nat.le_trans hB hb_.size)).mono ?_
   rintro e w2 ⟨B1,e1,B2q,e2,B3,e3,B4,e4,B5,e5,rfl,hon,b_⟩
   replace k_a:=Za k_a b_
   replace k_r:=Za k_r b_
   have c_w2:=b_.size
   replace hb_:=hb_.trans (b_.mono hb_.size)
   clear b_
   have o_c:=hon
   clear hon
   obtain ⟨x0a,x1a,x2a,x3a,x4a,x5a,x6a,x7a,x8a,x9a,xla⟩:=Zq k_a
   go_wp2_with fail
   clear x0a x1a x2a x3a x4a x5a x6a x7a x8a x9a xla
   have l_a:=Zg k_a
   have l_r:=Zg k_r
   have lt_a_w3:=Zg k_a
   have lt_r_w3:=Zg k_r
   generalize e_:(World.alloc _ _)=w3
   symm at e_
   replace k_a:=hkc e_ (Zb k_a _)
   replace k_r:=hkc e_ (Zb k_r _)
   have k_o:=hkc e_ (bnk w2.heap.size)
   have hX_:Zj w2 w3:=by rw [e_];exact boxy
   replace o_c:=o_c.boxy hX_
   replace hb_:Below w.heap.size w w3:=by rw [e_];exact bel
   have c_w3:=hX_.size
   clear l_a l_r e_ hX_
   refine (Zz d1 f1 ss1 d2 f2 ss2 st P pp m B A1 A2 A3 A4 A5 c1 c2 c3 c4 c5 w3 (hS.below (hb_.mono hB)) (Nat.le_trans hB hb_.size)).mono ?_
   rw [HW1.out]
   rintro e w4 ⟨rfl,b_⟩
   replace k_a:=Za k_a b_
   replace k_r:=Za k_r b_
   replace k_o:=Za k_o b_
   replace o_c:=o_c.below b_
   have c_w4:=b_.size
   replace hb_:=hb_.trans (b_.mono hb_.size)
   clear b_
   obtain ⟨x0o,x1o,x2o,x3o,x4o,x5o,x6o,x7o,x8o,x9o,xlo⟩:=Zq k_o
   obtain ⟨⟨x0r,x1r,x2r,x3r,x4r,x5r,x6r,x7r,x8r,x9r,xlr⟩,f0r,f1r,f2r,f3r,f4r,f5r,f6r,f7r,f8r,f9r⟩:=Za2 k_r
   go_wp2_with (go_at_call 95;refine (Zbc _ _ _ _).mono ?_;rintro e w' ⟨rfl,rfl⟩;rw [HI.out])
   refine bodyPost_ret (v:=.tuple #[.agg #[.int .i64 d1,.int .i64 f1,.slice B1 ss1.length e1,.int .i64 d2,.int .i64 f2,.slice B2q ss2.length e2,.slice B3 st.length e3,.slice B4 P.length e4,.slice B5 pp.length e5,.int .i64 m],.bool false]) (by simp [results,Tryz.results177,go_sem, *]) rfl ?_
   clear x0o x1o x2o x3o x4o x5o x6o x7o x8o x9o xlo x0r x1r x2r x3r x4r x5r x6r x7r x8r x9r xlr f0r f1r f2r f3r f4r f5r f6r f7r f8r f9r
   have o9_:Zau w4 w.heap.size w4.heap.size B1 e1 B2q e2 B3 e3 B4 e4 B5 e5 (Zd.mk d1 f1 ss1 d2 f2 ss2 st) P pp:=o_c.wide (by omega) (by omega)
   exact Zaq HR4.out ⟨B1,e1,B2q,e2,B3,e3,B4,e4,B5,e5,rfl,Zcp k_r o9_ hb_ (by omega)⟩
  case true =>
   have hnb:=Za5.1 hi
   have hw5:IntKind.i64.wrap (5 * n)=5 * n:=by rw [IntKind.wrap_i64];omega
   have hw6:IntKind.i64.wrap (m+5 * n)=m+5 * n:=by rw [IntKind.wrap_i64];omega
   clear hnb hmb
   cases bn
   case false =>
    have HR4:=Lib.hid (hn2 rfl)
    have HW1:=Lib.hid hw1
    have HI:=Lib.hid hi
    clear hn1 hn2 hn3 hn4 hn5 hy hw1 hi
    go_enter Tryz.func177,Tryz.ntmps177
    go_wp2_with fail
    generalize e_:(World.alloc _ _)=w1
    symm at e_
    have k_a:=hkc e_ (Zb (bnk w.heap.size) _)
    have k_r:=hkc e_ (bnk (w.heap.size+1))
    have hX_:Zj w w1:=by rw [e_];exact boxy
    have hb_:Below w.heap.size w w1:=by rw [e_];exact bel
    have c_w1:=hX_.size
    clear e_ hX_
    refine (Zaz d1 f1 ss1 d2 f2 ss2 st P pp m B A1 A2 A3 A4 A5 c1 c2 c3 c4 c5 w1 (hS.below (hb_.mono hB)) (Nat.le_trans hB hb_.size)).mono ?_
    rintro e w2 ⟨B1,e1,B2q,e2,B3,e3,B4,e4,B5,e5,rfl,hon,b_⟩
    replace k_a:=Za k_a b_
    replace k_r:=Za k_r b_
    have c_w2:=b_.size
    replace hb_:=hb_.trans (b_.mono hb_.size)
    clear b_
    have o_c:=hon
    clear hon
    obtain ⟨x0a,x1a,x2a,x3a,x4a,x5a,x6a,x7a,x8a,x9a,xla⟩:=Zq k_a
    go_wp2_with fail
    clear x0a x1a x2a x3a x4a x5a x6a x7a x8a x9a xla
    have l_a:=Zg k_a
    have l_r:=Zg k_r
    have lt_a_w3:=Zg k_a
    have lt_r_w3:=Zg k_r
    generalize e_:(World.alloc _ _)=w3
    symm at e_
    replace k_a:=hkc e_ (Zb k_a _)
    replace k_r:=hkc e_ (Zb k_r _)
    have k_o:=hkc e_ (bnk w2.heap.size)
    have hX_:Zj w2 w3:=by rw [e_];exact boxy
    replace o_c:=o_c.boxy hX_
    replace hb_:Below w.heap.size w w3:=by rw [e_];exact bel
    have c_w3:=hX_.size
    clear l_a l_r e_ hX_
    refine (Zz d1 f1 ss1 d2 f2 ss2 st P pp m B A1 A2 A3 A4 A5 c1 c2 c3 c4 c5 w3 (hS.below (hb_.mono hB)) (Nat.le_trans hB hb_.size)).mono ?_
    rw [HW1.out]
    rintro e w4 ⟨rfl,b_⟩
    replace k_a:=Za k_a b_
    replace k_r:=Za k_r b_
    replace k_o:=Za k_o b_
    replace o_c:=o_c.below b_
    have c_w4:=b_.size
    replace hb_:=hb_.trans (b_.mono hb_.size)
    clear b_
    obtain ⟨x0a,x1a,x2a,x3a,x4a,x5a,x6a,x7a,x8a,x9a,xla⟩:=Zq k_a
    go_wp2_with (go_at_call 95;refine (Zbc _ _ _ _).mono ?_;rintro e w' ⟨rfl,rfl⟩;rw [HI.out])
    clear x0a x1a x2a x3a x4a x5a x6a x7a x8a x9a xla
    refine (Ze HCN _ hb_).mono ?_
    rintro e w5 ⟨E2,g2,rfl,hon2,b_⟩
    replace k_a:=Za k_a b_
    replace k_r:=Za k_r b_
    replace k_o:=Za k_o b_
    replace o_c:=o_c.below b_
    have c_w5:=b_.size
    replace hb_:=hb_.trans (b_.mono hb_.size)
    clear b_
    have o_nm:=hon2
    clear hon2
    clear o_nm
    obtain ⟨x0a,x1a,x2a,x3a,x4a,x5a,x6a,x7a,x8a,x9a,xla⟩:=Zq k_a
    go_wp2_with fail
    clear x0a x1a x2a x3a x4a x5a x6a x7a x8a x9a xla
    have l_a:=Zg k_a
    have l_r:=Zg k_r
    have l_o:=Zg k_o
    have lt_a_w6:=Zg k_a
    have lt_r_w6:=Zg k_r
    have lt_o_w6:=Zg k_o
    generalize e_:(World.alloc _ _)=w6
    symm at e_
    replace k_a:=hkc e_ (Zb k_a _)
    replace k_r:=hkc e_ (Zb k_r _)
    replace k_o:=hkc e_ (Zb k_o _)
    have k_cd:=hkc e_ (bnk w5.heap.size)
    have hX_:Zj w5 w6:=by rw [e_];exact boxy
    replace o_c:=o_c.boxy hX_
    replace hb_:Below w.heap.size w w6:=by rw [e_];exact bel
    have c_w6:=hX_.size
    clear l_a l_r l_o e_ hX_
    refine (Ze HUS _ hb_).mono ?_
    rintro e w7 ⟨E5,g5,rfl,hon5,b_⟩
    replace k_a:=Za k_a b_
    replace k_r:=Za k_r b_
    replace k_o:=Za k_o b_
    replace k_cd:=Za k_cd b_
    replace o_c:=o_c.below b_
    have c_w7:=b_.size
    replace hb_:=hb_.trans (b_.mono hb_.size)
    clear b_
    have o_q:=hon5
    clear hon5
    clear o_q
    obtain ⟨x0o,x1o,x2o,x3o,x4o,x5o,x6o,x7o,x8o,x9o,xlo⟩:=Zq k_o
    obtain ⟨⟨x0r,x1r,x2r,x3r,x4r,x5r,x6r,x7r,x8r,x9r,xlr⟩,f0r,f1r,f2r,f3r,f4r,f5r,f6r,f7r,f8r,f9r⟩:=Za2 k_r
    go_wp2
    refine bodyPost_ret (v:=.tuple #[.agg #[.int .i64 d1,.int .i64 f1,.slice B1 ss1.length e1,.int .i64 d2,.int .i64 f2,.slice B2q ss2.length e2,.slice B3 st.length e3,.slice B4 P.length e4,.slice B5 pp.length e5,.int .i64 m],.bool false]) (by simp [results,Tryz.results177,go_sem, *]) rfl ?_
    clear x0o x1o x2o x3o x4o x5o x6o x7o x8o x9o xlo x0r x1r x2r x3r x4r x5r x6r x7r x8r x9r xlr f0r f1r f2r f3r f4r f5r f6r f7r f8r f9r
    have o9_:Zau w7 w.heap.size w7.heap.size B1 e1 B2q e2 B3 e3 B4 e4 B5 e5 (Zd.mk d1 f1 ss1 d2 f2 ss2 st) P pp:=o_c.wide (by omega) (by omega)
    exact Zaq HR4.out ⟨B1,e1,B2q,e2,B3,e3,B4,e4,B5,e5,rfl,Zcp k_r o9_ hb_ (by omega)⟩
   case true =>
    cases bq
    case false =>
     have HR4:=Lib.hid (hn4 rfl)
     have HW1:=Lib.hid hw1
     have HI:=Lib.hid hi
     clear hn1 hn2 hn3 hn4 hn5 hy hw1 hi
     go_enter Tryz.func177,Tryz.ntmps177
     go_wp2_with fail
     generalize e_:(World.alloc _ _)=w1
     symm at e_
     have k_a:=hkc e_ (Zb (bnk w.heap.size) _)
     have k_r:=hkc e_ (bnk (w.heap.size+1))
     have hX_:Zj w w1:=by rw [e_];exact boxy
     have hb_:Below w.heap.size w w1:=by rw [e_];exact bel
     have c_w1:=hX_.size
     clear e_ hX_
     refine (Zaz d1 f1 ss1 d2 f2 ss2 st P pp m B A1 A2 A3 A4 A5 c1 c2 c3 c4 c5 w1 (hS.below (hb_.mono hB)) (Nat.le_trans hB hb_.size)).mono ?_
     rintro e w2 ⟨B1,e1,B2q,e2,B3,e3,B4,e4,B5,e5,rfl,hon,b_⟩
     replace k_a:=Za k_a b_
     replace k_r:=Za k_r b_
     have c_w2:=b_.size
     replace hb_:=hb_.trans (b_.mono hb_.size)
     clear b_
     have o_c:=hon
     clear hon
     obtain ⟨x0a,x1a,x2a,x3a,x4a,x5a,x6a,x7a,x8a,x9a,xla⟩:=Zq k_a
     go_wp2_with fail
     clear x0a x1a x2a x3a x4a x5a x6a x7a x8a x9a xla
     have l_a:=Zg k_a
     have l_r:=Zg k_r
     have lt_a_w3:=Zg k_a
     have lt_r_w3:=Zg k_r
     generalize e_:(World.alloc _ _)=w3
     symm at e_
     replace k_a:=hkc e_ (Zb k_a _)
     replace k_r:=hkc e_ (Zb k_r _)
     have k_o:=hkc e_ (bnk w2.heap.size)
     have hX_:Zj w2 w3:=by rw [e_];exact boxy
     replace o_c:=o_c.boxy hX_
     replace hb_:Below w.heap.size w w3:=by rw [e_];exact bel
     have c_w3:=hX_.size
     clear l_a l_r e_ hX_
     refine (Zz d1 f1 ss1 d2 f2 ss2 st P pp m B A1 A2 A3 A4 A5 c1 c2 c3 c4 c5 w3 (hS.below (hb_.mono hB)) (Nat.le_trans hB hb_.size)).mono ?_
     rw [HW1.out]
     rintro e w4 ⟨rfl,b_⟩
     replace k_a:=Za k_a b_
     replace k_r:=Za k_r b_
     replace k_o:=Za k_o b_
     replace o_c:=o_c.below b_
     have c_w4:=b_.size
     replace hb_:=hb_.trans (b_.mono hb_.size)
     clear b_
     obtain ⟨x0a,x1a,x2a,x3a,x4a,x5a,x6a,x7a,x8a,x9a,xla⟩:=Zq k_a
     go_wp2_with (go_at_call 95;refine (Zbc _ _ _ _).mono ?_;rintro e w' ⟨rfl,rfl⟩;rw [HI.out])
     clear x0a x1a x2a x3a x4a x5a x6a x7a x8a x9a xla
     refine (Ze HCN _ hb_).mono ?_
     rintro e w5 ⟨E2,g2,rfl,hon2,b_⟩
     replace k_a:=Za k_a b_
     replace k_r:=Za k_r b_
     replace k_o:=Za k_o b_
     replace o_c:=o_c.below b_
     have c_w5:=b_.size
     replace hb_:=hb_.trans (b_.mono hb_.size)
     clear b_
     have o_nm:=hon2
     clear hon2
     clear o_nm
     obtain ⟨x0a,x1a,x2a,x3a,x4a,x5a,x6a,x7a,x8a,x9a,xla⟩:=Zq k_a
     go_wp2_with fail
     clear x0a x1a x2a x3a x4a x5a x6a x7a x8a x9a xla
     have l_a:=Zg k_a
     have l_r:=Zg k_r
     have l_o:=Zg k_o
     have lt_a_w6:=Zg k_a
     have lt_r_w6:=Zg k_r
     have lt_o_w6:=Zg k_o
     generalize e_:(World.alloc _ _)=w6
     symm at e_
     replace k_a:=hkc e_ (Zb k_a _)
     replace k_r:=hkc e_ (Zb k_r _)
     replace k_o:=hkc e_ (Zb k_o _)
     have k_cd:=hkc e_ (bnk w5.heap.size)
     have hX_:Zj w5 w6:=by rw [e_];exact boxy
     replace o_c:=o_c.boxy hX_
     replace hb_:Below w.heap.size w w6:=by rw [e_];exact bel
     have c_w6:=hX_.size
     clear l_a l_r l_o e_ hX_
     refine (Ze HUS _ hb_).mono ?_
     rintro e w7 ⟨E5,g5,rfl,hon5,b_⟩
     replace k_a:=Za k_a b_
     replace k_r:=Za k_r b_
     replace k_o:=Za k_o b_
     replace k_cd:=Za k_cd b_
     replace o_c:=o_c.below b_
     have c_w7:=b_.size
     replace hb_:=hb_.trans (b_.mono hb_.size)
     clear b_
     have o_q:=hon5
     clear hon5
     clear o_q
     obtain ⟨x0o,x1o,x2o,x3o,x4o,x5o,x6o,x7o,x8o,x9o,xlo⟩:=Zq k_o
     obtain ⟨⟨x0r,x1r,x2r,x3r,x4r,x5r,x6r,x7r,x8r,x9r,xlr⟩,f0r,f1r,f2r,f3r,f4r,f5r,f6r,f7r,f8r,f9r⟩:=Za2 k_r
     go_wp2
     refine bodyPost_ret (v:=.tuple #[.agg #[.int .i64 d1,.int .i64 f1,.slice B1 ss1.length e1,.int .i64 d2,.int .i64 f2,.slice B2q ss2.length e2,.slice B3 st.length e3,.slice B4 P.length e4,.slice B5 pp.length e5,.int .i64 m],.bool false]) (by simp [results,Tryz.results177,go_sem, *]) rfl ?_
     clear x0o x1o x2o x3o x4o x5o x6o x7o x8o x9o xlo x0r x1r x2r x3r x4r x5r x6r x7r x8r x9r xlr f0r f1r f2r f3r f4r f5r f6r f7r f8r f9r
     have o9_:Zau w7 w.heap.size w7.heap.size B1 e1 B2q e2 B3 e3 B4 e4 B5 e5 (Zd.mk d1 f1 ss1 d2 f2 ss2 st) P pp:=o_c.wide (by omega) (by omega)
     exact Zaq HR4.out ⟨B1,e1,B2q,e2,B3,e3,B4,e4,B5,e5,rfl,Zcp k_r o9_ hb_ (by omega)⟩
    case true =>
     by_cases h5:1000000<m+5 * n
     ·have HR4:=Lib.hid (hn5 h5)
      have HW1:=Lib.hid hw1
      have HI:=Lib.hid hi
      clear hn1 hn2 hn3 hn4 hn5 hy hw1 hi
      go_enter Tryz.func177,Tryz.ntmps177
      go_wp2_with fail
      generalize e_:(World.alloc _ _)=w1
      symm at e_
      have k_a:=hkc e_ (Zb (bnk w.heap.size) _)
      have k_r:=hkc e_ (bnk (w.heap.size+1))
      have hX_:Zj w w1:=by rw [e_];exact boxy
      have hb_:Below w.heap.size w w1:=by rw [e_];exact bel
      have c_w1:=hX_.size
      clear e_ hX_
      refine (Zaz d1 f1 ss1 d2 f2 ss2 st P pp m B A1 A2 A3 A4 A5 c1 c2 c3 c4 c5 w1 (hS.below (hb_.mono hB)) (Nat.le_trans hB hb_.size)).mono ?_
      rintro e w2 ⟨B1,e1,B2q,e2,B3,e3,B4,e4,B5,e5,rfl,hon,b_⟩
      replace k_a:=Za k_a b_
      replace k_r:=Za k_r b_
      have c_w2:=b_.size
      replace hb_:=hb_.trans (b_.mono hb_.size)
      clear b_
      have o_c:=hon
      clear hon
      obtain ⟨x0a,x1a,x2a,x3a,x4a,x5a,x6a,x7a,x8a,x9a,xla⟩:=Zq k_a
      go_wp2_with fail
      clear x0a x1a x2a x3a x4a x5a x6a x7a x8a x9a xla
      have l_a:=Zg k_a
      have l_r:=Zg k_r
      have lt_a_w3:=Zg k_a
      have lt_r_w3:=Zg k_r
      generalize e_:(World.alloc _ _)=w3
      symm at e_
      replace k_a:=hkc e_ (Zb k_a _)
      replace k_r:=hkc e_ (Zb k_r _)
      have k_o:=hkc e_ (bnk w2.heap.size)
      have hX_:Zj w2 w3:=by rw [e_];exact boxy
      replace o_c:=o_c.boxy hX_
      replace hb_:Below w.heap.size w w3:=by rw [e_];exact bel
      have c_w3:=hX_.size
      clear l_a l_r e_ hX_
      refine (Zz d1 f1 ss1 d2 f2 ss2 st P pp m B A1 A2 A3 A4 A5 c1 c2 c3 c4 c5 w3 (hS.below (hb_.mono hB)) (Nat.le_trans hB hb_.size)).mono ?_
      rw [HW1.out]
      rintro e w4 ⟨rfl,b_⟩
      replace k_a:=Za k_a b_
      replace k_r:=Za k_r b_
      replace k_o:=Za k_o b_
      replace o_c:=o_c.below b_
      have c_w4:=b_.size
      replace hb_:=hb_.trans (b_.mono hb_.size)
      clear b_
      obtain ⟨x0a,x1a,x2a,x3a,x4a,x5a,x6a,x7a,x8a,x9a,xla⟩:=Zq k_a
      go_wp2_with (go_at_call 95;refine (Zbc _ _ _ _).mono ?_;rintro e w' ⟨rfl,rfl⟩;rw [HI.out])
      clear x0a x1a x2a x3a x4a x5a x6a x7a x8a x9a xla
      refine (Ze HCN _ hb_).mono ?_
      rintro e w5 ⟨E2,g2,rfl,hon2,b_⟩
      replace k_a:=Za k_a b_
      replace k_r:=Za k_r b_
      replace k_o:=Za k_o b_
      replace o_c:=o_c.below b_
      have c_w5:=b_.size
      replace hb_:=hb_.trans (b_.mono hb_.size)
      clear b_
      have o_nm:=hon2
      clear hon2
      clear o_nm
      obtain ⟨x0a,x1a,x2a,x3a,x4a,x5a,x6a,x7a,x8a,x9a,xla⟩:=Zq k_a
      go_wp2_with fail
      clear x0a x1a x2a x3a x4a x5a x6a x7a x8a x9a xla
      have l_a:=Zg k_a
      have l_r:=Zg k_r
      have l_o:=Zg k_o
      have lt_a_w6:=Zg k_a
      have lt_r_w6:=Zg k_r
      have lt_o_w6:=Zg k_o
      generalize e_:(World.alloc _ _)=w6
      symm at e_
      replace k_a:=hkc e_ (Zb k_a _)
      replace k_r:=hkc e_ (Zb k_r _)
      replace k_o:=hkc e_ (Zb k_o _)
      have k_cd:=hkc e_ (bnk w5.heap.size)
      have hX_:Zj w5 w6:=by rw [e_];exact boxy
      replace o_c:=o_c.boxy hX_
      replace hb_:Below w.heap.size w w6:=by rw [e_];exact bel
      have c_w6:=hX_.size
      clear l_a l_r l_o e_ hX_
      refine (Ze HUS _ hb_).mono ?_
      rintro e w7 ⟨E5,g5,rfl,hon5,b_⟩
      replace k_a:=Za k_a b_
      replace k_r:=Za k_r b_
      replace k_o:=Za k_o b_
      replace k_cd:=Za k_cd b_
      replace o_c:=o_c.below b_
      have c_w7:=b_.size
      replace hb_:=hb_.trans (b_.mono hb_.size)
      clear b_
      have o_q:=hon5
      clear hon5
      clear o_q
      obtain ⟨x0o,x1o,x2o,x3o,x4o,x5o,x6o,x7o,x8o,x9o,xlo⟩:=Zq k_o
      obtain ⟨⟨x0r,x1r,x2r,x3r,x4r,x5r,x6r,x7r,x8r,x9r,xlr⟩,f0r,f1r,f2r,f3r,f4r,f5r,f6r,f7r,f8r,f9r⟩:=Za2 k_r
      obtain ⟨x0a,x1a,x2a,x3a,x4a,x5a,x6a,x7a,x8a,x9a,xla⟩:=Zq k_a
      go_wp2
      refine bodyPost_ret (v:=.tuple #[.agg #[.int .i64 d1,.int .i64 f1,.slice B1 ss1.length e1,.int .i64 d2,.int .i64 f2,.slice B2q ss2.length e2,.slice B3 st.length e3,.slice B4 P.length e4,.slice B5 pp.length e5,.int .i64 m],.bool false]) (by simp [results,Tryz.results177,go_sem, *]) rfl ?_
      clear x0o x1o x2o x3o x4o x5o x6o x7o x8o x9o xlo x0r x1r x2r x3r x4r x5r x6r x7r x8r x9r xlr f0r f1r f2r f3r f4r f5r f6r f7r f8r f9r x0a x1a x2a x3a x4a x5a x6a x7a x8a x9a xla
      have o9_:Zau w7 w.heap.size w7.heap.size B1 e1 B2q e2 B3 e3 B4 e4 B5 e5 (Zd.mk d1 f1 ss1 d2 f2 ss2 st) P pp:=o_c.wide (by omega) (by omega)
      exact Zaq HR4.out ⟨B1,e1,B2q,e2,B3,e3,B4,e4,B5,e5,rfl,Zcp k_r o9_ hb_ (by omega)⟩
     ·have HR4:=Lib.hid (hy hi hw1 rfl rfl h5)
      have HW1:=Lib.hid hw1
      have HI:=Lib.hid hi
      clear hn1 hn2 hn3 hn4 hn5 hy hw1 hi
      go_enter Tryz.func177,Tryz.ntmps177
      go_wp2_with fail
      generalize e_:(World.alloc _ _)=w1
      symm at e_
      have k_a:=hkc e_ (Zb (bnk w.heap.size) _)
      have k_r:=hkc e_ (bnk (w.heap.size+1))
      have hX_:Zj w w1:=by rw [e_];exact boxy
      have hb_:Below w.heap.size w w1:=by rw [e_];exact bel
      have c_w1:=hX_.size
      clear e_ hX_
      refine (Zaz d1 f1 ss1 d2 f2 ss2 st P pp m B A1 A2 A3 A4 A5 c1 c2 c3 c4 c5 w1 (hS.below (hb_.mono hB)) (Nat.le_trans hB hb_.size)).mono ?_
      rintro e w2 ⟨B1,e1,B2q,e2,B3,e3,B4,e4,B5,e5,rfl,hon,b_⟩
      obtain ⟨l1,h1_,l2,h2_,l3,h3_,L4,hr,ha,hx,hp4,hy,hz⟩:=hon.all
      have HP4:=Lib.hid hp4
      have HR:=Zk hr
      have HA:=Zk ha
      clear hon hr ha hp4
      replace k_a:=Za k_a b_
      replace k_r:=Za k_r b_
      have c_w2:=b_.size
      replace hb_:=hb_.trans (b_.mono hb_.size)
      clear b_
      have o_x:=hx
      clear hx
      have o_y:=hy
      clear hy
      have o_z:=hz
      clear hz
      obtain ⟨x0a,x1a,x2a,x3a,x4a,x5a,x6a,x7a,x8a,x9a,xla⟩:=Zq k_a
      go_wp2_with fail
      clear x0a x1a x2a x3a x4a x5a x6a x7a x8a x9a xla
      have l_a:=Zg k_a
      have l_r:=Zg k_r
      have lt_a_w3:=Zg k_a
      have lt_r_w3:=Zg k_r
      generalize e_:(World.alloc _ _)=w3
      symm at e_
      replace k_a:=hkc e_ (Zb k_a _)
      replace k_r:=hkc e_ (Zb k_r _)
      have k_o:=hkc e_ (bnk w2.heap.size)
      have hX_:Zj w2 w3:=by rw [e_];exact boxy
      replace o_x:=o_x.boxy hX_
      replace o_y:=o_y.boxy hX_
      replace o_z:=o_z.boxy hX_
      replace hb_:Below w.heap.size w w3:=by rw [e_];exact bel
      have c_w3:=hX_.size
      clear l_a l_r e_ hX_
      refine (Zz d1 f1 ss1 d2 f2 ss2 st P pp m B A1 A2 A3 A4 A5 c1 c2 c3 c4 c5 w3 (hS.below (hb_.mono hB)) (Nat.le_trans hB hb_.size)).mono ?_
      rw [HW1.out]
      rintro e w4 ⟨rfl,b_⟩
      replace k_a:=Za k_a b_
      replace k_r:=Za k_r b_
      replace k_o:=Za k_o b_
      replace o_x:=o_x.below b_
      replace o_y:=o_y.below b_
      replace o_z:=o_z.below b_
      have c_w4:=b_.size
      replace hb_:=hb_.trans (b_.mono hb_.size)
      clear b_
      obtain ⟨x0a,x1a,x2a,x3a,x4a,x5a,x6a,x7a,x8a,x9a,xla⟩:=Zq k_a
      go_wp2_with (go_at_call 95;refine (Zbc _ _ _ _).mono ?_;rintro e w' ⟨rfl,rfl⟩;rw [HI.out])
      clear x0a x1a x2a x3a x4a x5a x6a x7a x8a x9a xla
      refine (Ze HCN _ hb_).mono ?_
      rintro e w5 ⟨E2,g2,rfl,hon2,b_⟩
      replace k_a:=Za k_a b_
      replace k_r:=Za k_r b_
      replace k_o:=Za k_o b_
      replace o_x:=o_x.below b_
      replace o_y:=o_y.below b_
      replace o_z:=o_z.below b_
      have c_w5:=b_.size
      replace hb_:=hb_.trans (b_.mono hb_.size)
      clear b_
      have o_nm:=hon2
      clear hon2
      clear o_nm
      obtain ⟨x0a,x1a,x2a,x3a,x4a,x5a,x6a,x7a,x8a,x9a,xla⟩:=Zq k_a
      go_wp2_with fail
      clear x0a x1a x2a x3a x4a x5a x6a x7a x8a x9a xla
      have l_a:=Zg k_a
      have l_r:=Zg k_r
      have l_o:=Zg k_o
      have lt_a_w6:=Zg k_a
      have lt_r_w6:=Zg k_r
      have lt_o_w6:=Zg k_o
      generalize e_:(World.alloc _ _)=w6
      symm at e_
      replace k_a:=hkc e_ (Zb k_a _)
      replace k_r:=hkc e_ (Zb k_r _)
      replace k_o:=hkc e_ (Zb k_o _)
      have k_cd:=hkc e_ (bnk w5.heap.size)
      have hX_:Zj w5 w6:=by rw [e_];exact boxy
      replace o_x:=o_x.boxy hX_
      replace o_y:=o_y.boxy hX_
      replace o_z:=o_z.boxy hX_
      replace hb_:Below w.heap.size w w6:=by rw [e_];exact bel
      have c_w6:=hX_.size
      clear l_a l_r l_o e_ hX_
      refine (Ze HUS _ hb_).mono ?_
      rintro e w7 ⟨E5,g5,rfl,hon5,b_⟩
      replace k_a:=Za k_a b_
      replace k_r:=Za k_r b_
      replace k_o:=Za k_o b_
      replace k_cd:=Za k_cd b_
      replace o_x:=o_x.below b_
      replace o_y:=o_y.below b_
      replace o_z:=o_z.below b_
      have c_w7:=b_.size
      replace hb_:=hb_.trans (b_.mono hb_.size)
      clear b_
      have o_q:=hon5
      clear hon5
      clear o_z
      obtain ⟨x0a,x1a,x2a,x3a,x4a,x5a,x6a,x7a,x8a,x9a,xla⟩:=Zq k_a
      obtain ⟨⟨x0o,x1o,x2o,x3o,x4o,x5o,x6o,x7o,x8o,x9o,xlo⟩,f0o,f1o,f2o,f3o,f4o,f5o,f6o,f7o,f8o,f9o⟩:=Za2 k_o
      obtain ⟨⟨x0r,x1r,x2r,x3r,x4r,x5r,x6r,x7r,x8r,x9r,xlr⟩,f0r,f1r,f2r,f3r,f4r,f5r,f6r,f7r,f8r,f9r⟩:=Za2 k_r
      go_wp2
      have qaa:=Zl k_o
      have qba:=Zl k_r
      refine bodyPost_ret (v:=.tuple #[.agg #[.int .i64 d1,.int .i64 f1,.slice B1 ss1.length e1,.int .i64 d2,.int .i64 f2,.slice B2q ss2.length e2,.slice B3 st.length e3,.slice B4 P.length e4,.slice E5 ppq.length g5,.int .i64 (m+5 * n)],.bool true]) (by simp [results,Tryz.results177,go_sem, *]) rfl ?_
      clear x0a x1a x2a x3a x4a x5a x6a x7a x8a x9a xla x0o x1o x2o x3o x4o x5o x6o x7o x8o x9o xlo f0o f1o f2o f3o f4o f5o f6o f7o f8o f9o x0r x1r x2r x3r x4r x5r x6r x7r x8r x9r xlr f0r f1r f2r f3r f4r f5r f6r f7r f8r f9r
      obtain ⟨wE,heE⟩:∃ x,x=((((((((((((w7.setCell ⟨w2.heap.size,8,none⟩ (.slice E5 ppq.length g5)).setCell ⟨w2.heap.size,9,none⟩ (.int .i64 (m+5 * n))).setCell ⟨w.heap.size+1,0,none⟩ (.int .i64 d1)).setCell ⟨w.heap.size+1,1,none⟩ (.int .i64 f1)).setCell ⟨w.heap.size+1,2,none⟩ (.slice B1 ss1.length e1)).setCell ⟨w.heap.size+1,3,none⟩ (.int .i64 d2)).setCell ⟨w.heap.size+1,4,none⟩ (.int .i64 f2)).setCell ⟨w.heap.size+1,5,none⟩ (.slice B2q ss2.length e2)).setCell ⟨w.heap.size+1,6,none⟩ (.slice B3 st.length e3)).setCell ⟨w.heap.size+1,7,none⟩ (.slice B4 P.length e4)).setCell ⟨w.heap.size+1,8,none⟩ (.slice E5 ppq.length g5)).setCell ⟨w.heap.size+1,9,none⟩ (.int .i64 (m+5 * n))):=⟨_,rfl⟩
      have hBX:Zj w7 wE:=by rw [heE];exact boxy
      have hBW:Below w.heap.size w wE:=by rw [heE];exact bel
      have hsE:wE.heap.size=w7.heap.size:=by rw [heE];simp [World.setCell]
      rw [← heE]
      clear heE
      have hr1:=Ze HR
      have ha1:=Ze HA
      have hOW:Zau wE w.heap.size wE.heap.size B1 e1 B2q e2 B3 e3 B4 e4 E5 g5 (Zd.mk d1 f1 ss1 d2 f2 ss2 st) P ppq:=Zau.mk3 (o_x.boxy hBX) HP4.out (o_y.boxy hBX) (o_q.boxy hBX) (by omega) (by omega)
      exact Zaq HR4.out ⟨B1,e1,B2q,e2,B3,e3,B4,e4,E5,g5,rfl,hOW,hBW⟩
end Go.Proofs.YtlimlolciekimaaGreatDoor
