/- The contract of DoAct of the reference. -/
import Derived.Test.YtlimlolciekimaaGreatDoorRows
import Derived.Test.YtlimlolciekimaaGreatDoorQRWork9sA
import Derived.Test.YtlimlolciekimaaGreatDoorQRWork9sB
import Derived.Test.YtlimlolciekimaaGreatDoorQRWork9s8
namespace Go.Proofs.YtlimlolciekimaaGreatDoor
set_option maxHeartbeats 1600000
open Go.ChangeShapes Go.WideShapes Go.ChangeAt Go.RowKit
set_option linter.unusedVariables false
set_option linter.unusedSimpArgs false
set_option maxRecDepth 10000
theorem ZoH (d1 f1:Int) (ss1:List ByteArray) (d2 f2:Int) (ss2:List ByteArray) (st:List Zv) (P:List Zr) (pp:List Zt) (m:Int) (k a b:Int) (B:Nat) (A1 A2 A3 A4 A5:Option Addr) (c1 c2 c3 c4 c5:Nat) (w:World) (hS:ZaF w B A1 A2 A3 A4 c4 A5 ⟨d1,f1,ss1,d2,f2,ss2,st⟩ P pp) (hB:B≤w.heap.size) (hok:ZaI (Zd.mk d1 f1 ss1 d2 f2 ss2 st) P pp 1048576) :
  Calls Tryz.prog 126 #[.agg #[.int .i64 d1,.int .i64 f1,.slice A1 ss1.length c1,.int .i64 d2,.int .i64 f2,.slice A2 ss2.length c2,.slice A3 st.length c3,.slice A4 P.length c4,.slice A5 pp.length c5,.int .i64 m],.agg #[.int .i64 k,.int .i64 a,.int .i64 b]] w (ZfL (Zs (Zh.mk (Zd.mk d1 f1 ss1 d2 f2 ss2 st) P pp m) k a b).1.D.d1 (Zs (Zh.mk (Zd.mk d1 f1 ss1 d2 f2 ss2 st) P pp m) k a b).1.D.f1 (Zs (Zh.mk (Zd.mk d1 f1 ss1 d2 f2 ss2 st) P pp m) k a b).1.D.ss1 (Zs (Zh.mk (Zd.mk d1 f1 ss1 d2 f2 ss2 st) P pp m) k a b).1.D.d2 (Zs (Zh.mk (Zd.mk d1 f1 ss1 d2 f2 ss2 st) P pp m) k a b).1.D.f2 (Zs (Zh.mk (Zd.mk d1 f1 ss1 d2 f2 ss2 st) P pp m) k a b).1.D.ss2 (Zs (Zh.mk (Zd.mk d1 f1 ss1 d2 f2 ss2 st) P pp m) k a b).1.D.st (Zs (Zh.mk (Zd.mk d1 f1 ss1 d2 f2 ss2 st) P pp m) k a b).1.P (Zs (Zh.mk (Zd.mk d1 f1 ss1 d2 f2 ss2 st) P pp m) k a b).1.pp (Zs (Zh.mk (Zd.mk d1 f1 ss1 d2 f2 ss2 st) P pp m) k a b).1.m (Zs (Zh.mk (Zd.mk d1 f1 ss1 d2 f2 ss2 st) P pp m) k a b).2 w):=by
 cases hw1:Zp (Zh.mk (Zd.mk d1 f1 ss1 d2 f2 ss2 st) P pp m)
 case false =>
  have HR4:=Lib.hid (Zmq (k:=k) (a:=a) (b:=b) hw1)
  have HW1:=Lib.hid hw1
  clear hw1 hok
  generalize Zs (Zh.mk (Zd.mk d1 f1 ss1 d2 f2 ss2 st) P pp m) k a b=R at *
  go_enter Tryz.func126,Tryz.ntmps126
  go_wp2_with fail
  generalize e_:(World.alloc _ _)=w1
  symm at e_
  have k_a:=hkc e_ (Zb (Zb (bnk w.heap.size) _) _)
  have k_act:=hkc e_ (Zb (bnk (w.heap.size+1)) _)
  have k_r:=hkc e_ (bnk (w.heap.size+1+1))
  have hX_:Zj w w1:=by rw [e_];exact boxy
  have hb_:Below w.heap.size w w1:=by rw [e_];exact bel
  have c_w1:=hX_.size
  clear e_ hX_
  refine (Zaz d1 f1 ss1 d2 f2 ss2 st P pp m B A1 A2 A3 A4 A5 c1 c2 c3 c4 c5 w1 (hS.below (hb_.mono hB)) (Nat.le_trans hB hb_.size)).mono ?_
  rintro e w2 ⟨B1,e1,B2q,e2,B3,e3,B4,e4,B5,e5,rfl,hon,b_⟩
  replace k_a:=Za k_a b_
  replace k_act:=Za k_act b_
  replace k_r:=Za k_r b_
  have c_w2:=b_.size
  replace hb_:=hb_.trans (b_.mono hb_.size)
  clear b_
  have o_c:=hon
  clear hon
  obtain ⟨x0a,x1a,x2a,x3a,x4a,x5a,x6a,x7a,x8a,x9a,xla⟩:=Zq k_a
  go_wp2_with fail
  clear x0a x1a x2a x3a x4a x5a x6a x7a x8a x9a xla
  have l_a:=Zg k_a
  have l_act:=Zg k_act
  have l_r:=Zg k_r
  have lt_a_w3:=Zg k_a
  have lt_act_w3:=Zg k_act
  have lt_r_w3:=Zg k_r
  generalize e_:(World.alloc _ _)=w3
  symm at e_
  replace k_a:=hkc e_ (Zb k_a _)
  replace k_act:=hkc e_ (Zb k_act _)
  replace k_r:=hkc e_ (Zb k_r _)
  have k_o:=hkc e_ (bnk w2.heap.size)
  have hX_:Zj w2 w3:=by rw [e_];exact boxy
  replace o_c:=o_c.boxy hX_
  replace hb_:Below w.heap.size w w3:=by rw [e_];exact bel
  have c_w3:=hX_.size
  clear l_a l_act l_r e_ hX_
  refine (Zz d1 f1 ss1 d2 f2 ss2 st P pp m B A1 A2 A3 A4 A5 c1 c2 c3 c4 c5 w3 (hS.below (hb_.mono hB)) (Nat.le_trans hB hb_.size)).mono ?_
  rw [HW1.out]
  rintro e w4 ⟨rfl,b_⟩
  replace k_a:=Za k_a b_
  replace k_act:=Za k_act b_
  replace k_r:=Za k_r b_
  replace k_o:=Za k_o b_
  replace o_c:=o_c.below b_
  have c_w4:=b_.size
  replace hb_:=hb_.trans (b_.mono hb_.size)
  clear b_
  obtain ⟨x0o,x1o,x2o,x3o,x4o,x5o,x6o,x7o,x8o,x9o,xlo⟩:=Zq k_o
  obtain ⟨⟨x0r,x1r,x2r,x3r,x4r,x5r,x6r,x7r,x8r,x9r,xlr⟩,z0r,z1r,z2r,z3r,z4r,z5r,z6r,z7r,z8r,z9r⟩:=Za2 k_r
  go_wp2
  refine bodyPost_ret (v:=.tuple #[.agg #[.int .i64 d1,.int .i64 f1,.slice B1 ss1.length e1,.int .i64 d2,.int .i64 f2,.slice B2q ss2.length e2,.slice B3 st.length e3,.slice B4 P.length e4,.slice B5 pp.length e5,.int .i64 m],.int .i64 (-1)]) (by simp [results,Tryz.results126,go_sem, *]) rfl ?_
  clear x0o x1o x2o x3o x4o x5o x6o x7o x8o x9o xlo x0r x1r x2r x3r x4r x5r x6r x7r x8r x9r xlr z0r z1r z2r z3r z4r z5r z6r z7r z8r z9r
  have o9_:Zau w4 w.heap.size w4.heap.size B1 e1 B2q e2 B3 e3 B4 e4 B5 e5 (Zd.mk d1 f1 ss1 d2 f2 ss2 st) P pp:=o_c.wide (by omega) (by omega)
  exact Zbz HR4.out ⟨B1,e1,B2q,e2,B3,e3,B4,e4,B5,e5,rfl,Zcp k_r o9_ hb_ (by omega)⟩
 case true =>
  cases hac:ZaW k a b
  case false =>
   have HW1:=Lib.hid hw1
   have HR4:=Lib.hid (Zmo (W:=(Zh.mk (Zd.mk d1 f1 ss1 d2 f2 ss2 st) P pp m)) hac)
   have HAC:=Lib.hid hac
   clear hw1 hac hok
   generalize Zs (Zh.mk (Zd.mk d1 f1 ss1 d2 f2 ss2 st) P pp m) k a b=R at *
   go_enter Tryz.func126,Tryz.ntmps126
   go_wp2_with fail
   generalize e_:(World.alloc _ _)=w1
   symm at e_
   have k_a:=hkc e_ (Zb (Zb (bnk w.heap.size) _) _)
   have k_act:=hkc e_ (Zb (bnk (w.heap.size+1)) _)
   have k_r:=hkc e_ (bnk (w.heap.size+1+1))
   have hX_:Zj w w1:=by rw [e_];exact boxy
   have hb_:Below w.heap.size w w1:=by rw [e_];exact bel
   have c_w1:=hX_.size
   clear e_ hX_
   refine (Zaz d1 f1 ss1 d2 f2 ss2 st P pp m B A1 A2 A3 A4 A5 c1 c2 c3 c4 c5 w1 (hS.below (hb_.mono hB)) (Nat.le_trans hB hb_.size)).mono ?_
   rintro e w2 ⟨B1,e1,B2q,e2,B3,e3,B4,e4,B5,e5,rfl,hon,b_⟩
   replace k_a:=Za k_a b_
   replace k_act:=Za k_act b_
   replace k_r:=Za k_r b_
   have c_w2:=b_.size
   replace hb_:=hb_.trans (b_.mono hb_.size)
   clear b_
   have o_c:=hon
   clear hon
   obtain ⟨x0a,x1a,x2a,x3a,x4a,x5a,x6a,x7a,x8a,x9a,xla⟩:=Zq k_a
   go_wp2_with fail
   clear x0a x1a x2a x3a x4a x5a x6a x7a x8a x9a xla
   have l_a:=Zg k_a
   have l_act:=Zg k_act
   have l_r:=Zg k_r
   have lt_a_w3:=Zg k_a
   have lt_act_w3:=Zg k_act
   have lt_r_w3:=Zg k_r
   generalize e_:(World.alloc _ _)=w3
   symm at e_
   replace k_a:=hkc e_ (Zb k_a _)
   replace k_act:=hkc e_ (Zb k_act _)
   replace k_r:=hkc e_ (Zb k_r _)
   have k_o:=hkc e_ (bnk w2.heap.size)
   have hX_:Zj w2 w3:=by rw [e_];exact boxy
   replace o_c:=o_c.boxy hX_
   replace hb_:Below w.heap.size w w3:=by rw [e_];exact bel
   have c_w3:=hX_.size
   clear l_a l_act l_r e_ hX_
   refine (Zz d1 f1 ss1 d2 f2 ss2 st P pp m B A1 A2 A3 A4 A5 c1 c2 c3 c4 c5 w3 (hS.below (hb_.mono hB)) (Nat.le_trans hB hb_.size)).mono ?_
   rw [HW1.out]
   rintro e w4 ⟨rfl,b_⟩
   replace k_a:=Za k_a b_
   replace k_act:=Za k_act b_
   replace k_r:=Za k_r b_
   replace k_o:=Za k_o b_
   replace o_c:=o_c.below b_
   have c_w4:=b_.size
   replace hb_:=hb_.trans (b_.mono hb_.size)
   clear b_
   obtain ⟨x0act,x1act,x2act,xlact⟩:=Za8 k_act
   go_wp2_with fail
   clear x0act x1act x2act xlact
   refine (Zdi k a b w4).mono ?_
   rw [HAC.out]
   rintro e w5 ⟨rfl,b_⟩
   replace k_a:=Za k_a b_
   replace k_act:=Za k_act b_
   replace k_r:=Za k_r b_
   replace k_o:=Za k_o b_
   replace o_c:=o_c.below b_
   have c_w5:=b_.size
   replace hb_:=hb_.trans (b_.mono hb_.size)
   clear b_
   obtain ⟨x0o,x1o,x2o,x3o,x4o,x5o,x6o,x7o,x8o,x9o,xlo⟩:=Zq k_o
   obtain ⟨⟨x0r,x1r,x2r,x3r,x4r,x5r,x6r,x7r,x8r,x9r,xlr⟩,z0r,z1r,z2r,z3r,z4r,z5r,z6r,z7r,z8r,z9r⟩:=Za2 k_r
   go_wp2
   refine bodyPost_ret (v:=.tuple #[.agg #[.int .i64 d1,.int .i64 f1,.slice B1 ss1.length e1,.int .i64 d2,.int .i64 f2,.slice B2q ss2.length e2,.slice B3 st.length e3,.slice B4 P.length e4,.slice B5 pp.length e5,.int .i64 m],.int .i64 (-1)]) (by simp [results,Tryz.results126,go_sem, *]) rfl ?_
   clear x0o x1o x2o x3o x4o x5o x6o x7o x8o x9o xlo x0r x1r x2r x3r x4r x5r x6r x7r x8r x9r xlr z0r z1r z2r z3r z4r z5r z6r z7r z8r z9r
   have o9_:Zau w5 w.heap.size w5.heap.size B1 e1 B2q e2 B3 e3 B4 e4 B5 e5 (Zd.mk d1 f1 ss1 d2 f2 ss2 st) P pp:=o_c.wide (by omega) (by omega)
   exact Zbz HR4.out ⟨B1,e1,B2q,e2,B3,e3,B4,e4,B5,e5,rfl,Zcp k_r o9_ hb_ (by omega)⟩
  case true =>
   rcases Zi4 hac with rfl|rfl|rfl|rfl|rfl|rfl|rfl|rfl
   ·exact ZfY d1 f1 ss1 d2 f2 ss2 st P pp m 1 (by simp) a b B A1 A2 A3 A4 A5 c1 c2 c3 c4 c5 w hS hB hok hw1 hac
   ·exact ZfY d1 f1 ss1 d2 f2 ss2 st P pp m 2 (by simp) a b B A1 A2 A3 A4 A5 c1 c2 c3 c4 c5 w hS hB hok hw1 hac
   ·exact ZfY d1 f1 ss1 d2 f2 ss2 st P pp m 3 (by simp) a b B A1 A2 A3 A4 A5 c1 c2 c3 c4 c5 w hS hB hok hw1 hac
   ·exact ZfY d1 f1 ss1 d2 f2 ss2 st P pp m 4 (by simp) a b B A1 A2 A3 A4 A5 c1 c2 c3 c4 c5 w hS hB hok hw1 hac
   ·exact ZhB d1 f1 ss1 d2 f2 ss2 st P pp m 5 (by simp) a b B A1 A2 A3 A4 A5 c1 c2 c3 c4 c5 w hS hB hok hw1 hac
   ·exact ZhB d1 f1 ss1 d2 f2 ss2 st P pp m 6 (by simp) a b B A1 A2 A3 A4 A5 c1 c2 c3 c4 c5 w hS hB hok hw1 hac
   ·exact ZhB d1 f1 ss1 d2 f2 ss2 st P pp m 7 (by simp) a b B A1 A2 A3 A4 A5 c1 c2 c3 c4 c5 w hS hB hok hw1 hac
   ·exact ZnP d1 f1 ss1 d2 f2 ss2 st P pp m a b B A1 A2 A3 A4 A5 c1 c2 c3 c4 c5 w hS hB hok hw1 hac
end Go.Proofs.YtlimlolciekimaaGreatDoor
