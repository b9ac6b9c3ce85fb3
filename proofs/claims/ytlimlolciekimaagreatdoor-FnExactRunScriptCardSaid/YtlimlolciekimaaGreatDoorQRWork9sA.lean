/- DoAct of the reference: kinds 1 to 4. -/
import Derived.Deep.RegionHeld3
import Derived.Test.YtlimlolciekimaaGreatDoorRows
import Derived.Test.YtlimlolciekimaaGreatDoorQRWork9s0
import Derived.Test.YtlimlolciekimaaGreatDoorQRWork5Shapes
import Derived.Test.YtlimlolciekimaaGreatDoorQRWork5Unshapes
import Derived.Test.YtlimlolciekimaaGreatDoorQRWork7BuyPapers
namespace Go.Proofs.YtlimlolciekimaaGreatDoor
set_option maxHeartbeats 1600000
open Go.ChangeShapes Go.WideShapes Go.ChangeAt Go.RowKit
set_option linter.unusedVariables false
set_option linter.unusedSimpArgs false
set_option maxRecDepth 10000
theorem ZfY (d1 f1:Int) (ss1:List ByteArray) (d2 f2:Int) (ss2:List ByteArray) (st:List Zv) (P:List Zr) (pp:List Zt) (m k:Int) (hk:k=1∨k=2∨k=3∨k=4) (a b:Int) (B:Nat) (A1 A2 A3 A4 A5:Option Addr) (c1 c2 c3 c4 c5:Nat) (w:World) (hS:ZaF w B A1 A2 A3 A4 c4 A5 ⟨d1,f1,ss1,d2,f2,ss2,st⟩ P pp) (hB:B≤w.heap.size) (hok:ZaI (Zd.mk d1 f1 ss1 d2 f2 ss2 st) P pp 1048576) (hw1:Zp (Zh.mk (Zd.mk d1 f1 ss1 d2 f2 ss2 st) P pp m)=true) (hac:ZaW k a b=true) :
  Calls Tryz.prog 126 #[.agg #[.int .i64 d1,.int .i64 f1,.slice A1 ss1.length c1,.int .i64 d2,.int .i64 f2,.slice A2 ss2.length c2,.slice A3 st.length c3,.slice A4 P.length c4,.slice A5 pp.length c5,.int .i64 m],.agg #[.int .i64 k,.int .i64 a,.int .i64 b]] w (ZfL (Zs (Zh.mk (Zd.mk d1 f1 ss1 d2 f2 ss2 st) P pp m) k a b).1.D.d1 (Zs (Zh.mk (Zd.mk d1 f1 ss1 d2 f2 ss2 st) P pp m) k a b).1.D.f1 (Zs (Zh.mk (Zd.mk d1 f1 ss1 d2 f2 ss2 st) P pp m) k a b).1.D.ss1 (Zs (Zh.mk (Zd.mk d1 f1 ss1 d2 f2 ss2 st) P pp m) k a b).1.D.d2 (Zs (Zh.mk (Zd.mk d1 f1 ss1 d2 f2 ss2 st) P pp m) k a b).1.D.f2 (Zs (Zh.mk (Zd.mk d1 f1 ss1 d2 f2 ss2 st) P pp m) k a b).1.D.ss2 (Zs (Zh.mk (Zd.mk d1 f1 ss1 d2 f2 ss2 st) P pp m) k a b).1.D.st (Zs (Zh.mk (Zd.mk d1 f1 ss1 d2 f2 ss2 st) P pp m) k a b).1.P (Zs (Zh.mk (Zd.mk d1 f1 ss1 d2 f2 ss2 st) P pp m) k a b).1.pp (Zs (Zh.mk (Zd.mk d1 f1 ss1 d2 f2 ss2 st) P pp m) k a b).1.m (Zs (Zh.mk (Zd.mk d1 f1 ss1 d2 f2 ss2 st) P pp m) k a b).2 w):=by
 rcases hk with rfl|rfl|rfl|rfl
 all_goals
  obtain ⟨ha0,ha9⟩:=ZnX hac
  have HR4:=Lib.hid (Zmz hw1 hac (by decide))
  have HW1:=Lib.hid hw1
  have HAC:=Lib.hid hac
  clear hw1 hac
  generalize Zs (Zh.mk (Zd.mk d1 f1 ss1 d2 f2 ss2 st) P pp m) _ a b=R at *
  first|(rw [Zop] at HR4;have hcall:=fun (W:World) (hW1:ZaF W B A1 A2 A3 A4 c4 A5 (Zd.mk d1 f1 ss1 d2 f2 ss2 st) P pp) (hW2:B≤W.heap.size)=>Zmj d1 f1 ss1 d2 f2 ss2 st P pp m 1 a a b 0 ByteArray.empty ByteArray.empty B A1 A2 A3 A4 A5 c1 c2 c3 c4 c5 W hW1 hW2 hok (by decide) (by decide);generalize Zai (Zh.mk (Zd.mk d1 f1 ss1 d2 f2 ss2 st) P pp m) (Zv.mk 1 a a b 0 ByteArray.empty ByteArray.empty)=Q at *)|(rw [Zoq] at HR4;have hcall:=fun (W:World) (hW1:ZaF W B A1 A2 A3 A4 c4 A5 (Zd.mk d1 f1 ss1 d2 f2 ss2 st) P pp) (hW2:B≤W.heap.size)=>Zmj d1 f1 ss1 d2 f2 ss2 st P pp m 2 a a b 0 ByteArray.empty ByteArray.empty B A1 A2 A3 A4 A5 c1 c2 c3 c4 c5 W hW1 hW2 hok (by decide) (by decide);generalize Zai (Zh.mk (Zd.mk d1 f1 ss1 d2 f2 ss2 st) P pp m) (Zv.mk 2 a a b 0 ByteArray.empty ByteArray.empty)=Q at *)|(rw [Zn3] at HR4;have hcall:=fun (W:World) (hW1:ZaF W B A1 A2 A3 A4 c4 A5 (Zd.mk d1 f1 ss1 d2 f2 ss2 st) P pp) (hW2:B≤W.heap.size)=>ZmT d1 f1 ss1 d2 f2 ss2 st P pp m B A1 A2 A3 A4 A5 c1 c2 c3 c4 c5 W hW1 hW2 hok;generalize Zad (Zh.mk (Zd.mk d1 f1 ss1 d2 f2 ss2 st) P pp m)=Q at *)|(rw [ZnL] at HR4;have hcall:=fun (W:World) (hW1:ZaF W B A1 A2 A3 A4 c4 A5 (Zd.mk d1 f1 ss1 d2 f2 ss2 st) P pp) (hW2:B≤W.heap.size)=>ZlX d1 f1 ss1 d2 f2 ss2 st P pp m a b B A1 A2 A3 A4 A5 c1 c2 c3 c4 c5 W hW1 hW2 hok;generalize ZaX (Zh.mk (Zd.mk d1 f1 ss1 d2 f2 ss2 st) P pp m) a b=Q at *)
  obtain ⟨⟨⟨d1r,f1r,ss1r,d2r,f2r,ss2r,str⟩,Pr,ppr,mr⟩,rb⟩:=Q
  simp only at hcall HR4
  have HCALL:=Zk hcall
  clear hcall hok
  obtain ⟨xb,hxb⟩:∃ x:Int,(if rb=true then 1 else 0)=x:=⟨_,rfl⟩
  rw [hxb] at HR4
  go_enter Tryz.func126,Tryz.ntmps126
  go_wp2_with fail
  generalize e_:(World.alloc _ _)=w1
  symm at e_
  have k_a:=hkc e_ (Zb (Zb (bnk w.heap.size) _) _)
  have k_act:=hkc e_ (Zb (bnk (w.heap.size+1)) _)
  have k_r:=hkc e_ (bnk (w.heap.size+1+1))
  have hX_:Zj w w1:=by rw [e_];exact boxy
  have hb_:Below w.heap.size w w1:=by rw [e_];exact bel
  have c_w1:=hX_.size
  clear e_ hX_
  refine (Zaz d1 f1 ss1 d2 f2 ss2 st P pp m B A1 A2 A3 A4 A5 c1 c2 c3 c4 c5 w1 (hS.below (hb_.mono hB)) (Nat.le_trans hB hb_.size)).mono ?_
  rintro e w2 ⟨B1,e1,B2q,e2,B3,e3,B4,e4,B5,e5,rfl,hon,b_⟩
  replace k_a:=Za k_a b_
  replace k_act:=Za k_act b_
  replace k_r:=Za k_r b_
  have c_w2:=b_.size
  replace hb_:=hb_.trans (b_.mono hb_.size)
  clear b_
  have o_c:=hon
  clear hon
  obtain ⟨x0a,x1a,x2a,x3a,x4a,x5a,x6a,x7a,x8a,x9a,xla⟩:=Zq k_a
  go_wp2_with fail
  clear x0a x1a x2a x3a x4a x5a x6a x7a x8a x9a xla
  have l_a:=Zg k_a
  have l_act:=Zg k_act
  have l_r:=Zg k_r
  have lt_a_w3:=Zg k_a
  have lt_act_w3:=Zg k_act
  have lt_r_w3:=Zg k_r
  generalize e_:(World.alloc _ _)=w3
  symm at e_
  replace k_a:=hkc e_ (Zb k_a _)
  replace k_act:=hkc e_ (Zb k_act _)
  replace k_r:=hkc e_ (Zb k_r _)
  have k_o:=hkc e_ (bnk w2.heap.size)
  have hX_:Zj w2 w3:=by rw [e_];exact boxy
  replace o_c:=o_c.boxy hX_
  replace hb_:Below w.heap.size w w3:=by rw [e_];exact bel
  have c_w3:=hX_.size
  clear l_a l_act l_r e_ hX_
  refine (Zz d1 f1 ss1 d2 f2 ss2 st P pp m B A1 A2 A3 A4 A5 c1 c2 c3 c4 c5 w3 (hS.below (hb_.mono hB)) (Nat.le_trans hB hb_.size)).mono ?_
  rw [HW1.out]
  rintro e w4 ⟨rfl,b_⟩
  replace k_a:=Za k_a b_
  replace k_act:=Za k_act b_
  replace k_r:=Za k_r b_
  replace k_o:=Za k_o b_
  replace o_c:=o_c.below b_
  have c_w4:=b_.size
  replace hb_:=hb_.trans (b_.mono hb_.size)
  clear b_
  obtain ⟨x0act,x1act,x2act,xlact⟩:=Za8 k_act
  go_wp2_with fail
  clear x0act x1act x2act xlact
  refine (Zdi _ a b w4).mono ?_
  rw [HAC.out]
  rintro e w5 ⟨rfl,b_⟩
  replace k_a:=Za k_a b_
  replace k_act:=Za k_act b_
  replace k_r:=Za k_r b_
  replace k_o:=Za k_o b_
  replace o_c:=o_c.below b_
  have c_w5:=b_.size
  replace hb_:=hb_.trans (b_.mono hb_.size)
  clear b_
  clear o_c
  obtain ⟨x0a,x1a,x2a,x3a,x4a,x5a,x6a,x7a,x8a,x9a,xla⟩:=Zq k_a
  obtain ⟨x0act,x1act,x2act,xlact⟩:=Za8 k_act
  go_wp2_with fail
  clear x0a x1a x2a x3a x4a x5a x6a x7a x8a x9a xla x0act x1act x2act xlact
  have l_a:=Zg k_a
  have l_act:=Zg k_act
  have l_r:=Zg k_r
  have l_o:=Zg k_o
  have lt_a_w6:=Zg k_a
  have lt_act_w6:=Zg k_act
  have lt_r_w6:=Zg k_r
  have lt_o_w6:=Zg k_o
  generalize e_:(World.alloc _ _)=w6
  symm at e_
  replace k_a:=hkc e_ (Zb k_a _)
  replace k_act:=hkc e_ (Zb k_act _)
  replace k_r:=hkc e_ (Zb k_r _)
  replace k_o:=hkc e_ (Zb k_o _)
  have k_bx:=hkc e_ (bnk w5.heap.size)
  have hX_:Zj w5 w6:=by rw [e_];exact boxy
  replace hb_:Below w.heap.size w w6:=by rw [e_];exact bel
  have c_w6:=hX_.size
  clear l_a l_act l_r l_o e_ hX_
  refine (Ze HCALL _ (hS.below (hb_.mono hB)) (Nat.le_trans hB hb_.size)).mono ?_
  rintro e w7 ⟨G1,q1,G2,q2,G3,q3,G4,q4,G5,q5,rfl,hon,b_⟩
  replace k_a:=Za k_a b_
  replace k_act:=Za k_act b_
  replace k_r:=Za k_r b_
  replace k_o:=Za k_o b_
  replace k_bx:=Za k_bx b_
  have c_w7:=b_.size
  replace hb_:=hb_.trans (b_.mono hb_.size)
  clear b_
  have o_n:=hon
  clear hon
  obtain ⟨⟨x0o,x1o,x2o,x3o,x4o,x5o,x6o,x7o,x8o,x9o,xlo⟩,z0o,z1o,z2o,z3o,z4o,z5o,z6o,z7o,z8o,z9o⟩:=Za2 k_o
  go_wp2
  clear x0o x1o x2o x3o x4o x5o x6o x7o x8o x9o xlo z0o z1o z2o z3o z4o z5o z6o z7o z8o z9o
  have l_a:=Zg k_a
  have l_act:=Zg k_act
  have l_r:=Zg k_r
  have l_o:=Zg k_o
  have l_bx:=Zg k_bx
  have bx_o:=Zl k_o
  generalize e_:(World.setCell _ _ _)=w8
  symm at e_
  replace k_a:=hkc e_ (Zf (Zf (Zf (Zf (Zf (Zf (Zf (Zf (Zf (Zf k_a (show ¬w.heap.size=w2.heap.size by omega) _) (show ¬w.heap.size=w2.heap.size by omega) _) (show ¬w.heap.size=w2.heap.size by omega) _) (show ¬w.heap.size=w2.heap.size by omega) _) (show ¬w.heap.size=w2.heap.size by omega) _) (show ¬w.heap.size=w2.heap.size by omega) _) (show ¬w.heap.size=w2.heap.size by omega) _) (show ¬w.heap.size=w2.heap.size by omega) _) (show ¬w.heap.size=w2.heap.size by omega) _) (show ¬w.heap.size=w2.heap.size by omega) _)
  replace k_act:=hkc e_ (Zf (Zf (Zf (Zf (Zf (Zf (Zf (Zf (Zf (Zf k_act (show ¬w.heap.size+1=w2.heap.size by omega) _) (show ¬w.heap.size+1=w2.heap.size by omega) _) (show ¬w.heap.size+1=w2.heap.size by omega) _) (show ¬w.heap.size+1=w2.heap.size by omega) _) (show ¬w.heap.size+1=w2.heap.size by omega) _) (show ¬w.heap.size+1=w2.heap.size by omega) _) (show ¬w.heap.size+1=w2.heap.size by omega) _) (show ¬w.heap.size+1=w2.heap.size by omega) _) (show ¬w.heap.size+1=w2.heap.size by omega) _) (show ¬w.heap.size+1=w2.heap.size by omega) _)
  replace k_r:=hkc e_ (Zf (Zf (Zf (Zf (Zf (Zf (Zf (Zf (Zf (Zf k_r (show ¬w.heap.size+1+1=w2.heap.size by omega) _) (show ¬w.heap.size+1+1=w2.heap.size by omega) _) (show ¬w.heap.size+1+1=w2.heap.size by omega) _) (show ¬w.heap.size+1+1=w2.heap.size by omega) _) (show ¬w.heap.size+1+1=w2.heap.size by omega) _) (show ¬w.heap.size+1+1=w2.heap.size by omega) _) (show ¬w.heap.size+1+1=w2.heap.size by omega) _) (show ¬w.heap.size+1+1=w2.heap.size by omega) _) (show ¬w.heap.size+1+1=w2.heap.size by omega) _) (show ¬w.heap.size+1+1=w2.heap.size by omega) _)
  replace k_o:w8.heap[w2.heap.size]?=some (.cells #[.int .i64 d1r,.int .i64 f1r,.slice G1 ss1r.length q1,.int .i64 d2r,.int .i64 f2r,.slice G2 ss2r.length q2,.slice G3 str.length q3,.slice G4 Pr.length q4,.slice G5 ppr.length q5,.int .i64 mr] 33 (0,0)):=by rw [e_];have hq9:=(Zu (Zu (Zu (Zu (Zu (Zu (Zu (Zu (Zu (Zu k_o 0 (.int .i64 d1r)) 1 (.int .i64 f1r)) 2 (.slice G1 ss1r.length q1)) 3 (.int .i64 d2r)) 4 (.int .i64 f2r)) 5 (.slice G2 ss2r.length q2)) 6 (.slice G3 str.length q3)) 7 (.slice G4 Pr.length q4)) 8 (.slice G5 ppr.length q5)) 9 (.int .i64 mr));simpa using hq9
  replace k_bx:=hkc e_ (Zf (Zf (Zf (Zf (Zf (Zf (Zf (Zf (Zf (Zf k_bx (show ¬w5.heap.size=w2.heap.size by omega) _) (show ¬w5.heap.size=w2.heap.size by omega) _) (show ¬w5.heap.size=w2.heap.size by omega) _) (show ¬w5.heap.size=w2.heap.size by omega) _) (show ¬w5.heap.size=w2.heap.size by omega) _) (show ¬w5.heap.size=w2.heap.size by omega) _) (show ¬w5.heap.size=w2.heap.size by omega) _) (show ¬w5.heap.size=w2.heap.size by omega) _) (show ¬w5.heap.size=w2.heap.size by omega) _) (show ¬w5.heap.size=w2.heap.size by omega) _)
  have hX_:Zj w7 w8:=by rw [e_];exact boxy
  replace o_n:=o_n.boxy hX_
  replace hb_:Below w.heap.size w w8:=by rw [e_];exact bel
  have c_w8:=hX_.size
  clear l_a l_act l_r l_o l_bx bx_o e_ hX_
  obtain ⟨x0o,x1o,x2o,x3o,x4o,x5o,x6o,x7o,x8o,x9o,xlo⟩:=Zq k_o
  obtain ⟨⟨x0r,x1r,x2r,x3r,x4r,x5r,x6r,x7r,x8r,x9r,xlr⟩,z0r,z1r,z2r,z3r,z4r,z5r,z6r,z7r,z8r,z9r⟩:=Za2 k_r
  go_region_with (go_at_call 180;refine (Zjs rb _).mono ?_;rw [hxb];rintro e w9 ⟨rfl,rfl⟩)
  all_goals (
   go_wp2
   refine bodyPost_ret (v:=.tuple #[.agg #[.int .i64 d1r,.int .i64 f1r,.slice G1 ss1r.length q1,.int .i64 d2r,.int .i64 f2r,.slice G2 ss2r.length q2,.slice G3 str.length q3,.slice G4 Pr.length q4,.slice G5 ppr.length q5,.int .i64 mr],.int .i64 xb]) (by simp [results,Tryz.results126,go_sem, *]) rfl ?_
   have qaa:=Zl k_r
   obtain ⟨wE,heE⟩:∃ x,x=((((((((((w8.setCell ⟨w.heap.size+1+1,0,none⟩ (.int .i64 d1r)).setCell ⟨w.heap.size+1+1,1,none⟩ (.int .i64 f1r)).setCell ⟨w.heap.size+1+1,2,none⟩ (.slice G1 ss1r.length q1)).setCell ⟨w.heap.size+1+1,3,none⟩ (.int .i64 d2r)).setCell ⟨w.heap.size+1+1,4,none⟩ (.int .i64 f2r)).setCell ⟨w.heap.size+1+1,5,none⟩ (.slice G2 ss2r.length q2)).setCell ⟨w.heap.size+1+1,6,none⟩ (.slice G3 str.length q3)).setCell ⟨w.heap.size+1+1,7,none⟩ (.slice G4 Pr.length q4)).setCell ⟨w.heap.size+1+1,8,none⟩ (.slice G5 ppr.length q5)).setCell ⟨w.heap.size+1+1,9,none⟩ (.int .i64 mr)):=⟨_,rfl⟩
   have hBX:Zj w8 wE:=by rw [heE];exact boxy
   have hBW:Below w.heap.size w wE:=by rw [heE];exact bel
   have hsE:wE.heap.size=w8.heap.size:=by rw [heE];simp [World.setCell]
   have hOW:Zau wE w.heap.size wE.heap.size G1 q1 G2 q2 G3 q3 G4 q4 G5 q5 (Zd.mk d1r f1r ss1r d2r f2r ss2r str) Pr ppr:=(o_n.boxy hBX).wide (by omega) (by omega)
   rw [← heE]
   clear heE
   first|(with_reducible exact Zbz HR4.out ⟨G1,q1,G2,q2,G3,q3,G4,q4,G5,q5,rfl,hOW.drew,hBW.drew⟩)|(with_reducible exact Zbz HR4.out ⟨G1,q1,G2,q2,G3,q3,G4,q4,G5,q5,rfl,hOW.drew.drew,hBW.drew.drew⟩)|exact Zbz HR4.out ⟨G1,q1,G2,q2,G3,q3,G4,q4,G5,q5,rfl,hOW.drew,hBW.drew⟩|exact Zbz HR4.out ⟨G1,q1,G2,q2,G3,q3,G4,q4,G5,q5,rfl,hOW.drew.drew,hBW.drew.drew⟩|exact Zbz HR4.out ⟨G1,q1,G2,q2,G3,q3,G4,q4,G5,q5,rfl,hOW,hBW⟩)
end Go.Proofs.YtlimlolciekimaaGreatDoor
