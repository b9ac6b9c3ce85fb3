/- DoAct of the reference: kinds 5 to 7. -/
import Derived.Deep.RegionHeld3
import Derived.Test.YtlimlolciekimaaGreatDoorRows
import Derived.Test.YtlimlolciekimaaGreatDoorQRWork9s0
import Derived.Test.YtlimlolciekimaaGreatDoorQRWork5KeepCards
import Derived.Test.YtlimlolciekimaaGreatDoorQRWork7MakeCopiess
import Derived.Test.YtlimlolciekimaaGreatDoorQRWork5ForgetCards
namespace Go.Proofs.YtlimlolciekimaaGreatDoor
set_option maxHeartbeats 1600000
open Go.ChangeShapes Go.WideShapes Go.ChangeAt Go.RowKit
set_option linter.unusedVariables false
set_option linter.unusedSimpArgs false
set_option maxRecDepth 10000
theorem ZhB (d1 f1:Int) (ss1:List ByteArray) (d2 f2:Int) (ss2:List ByteArray) (st:List Zv) (P:List Zr) (pp:List Zt) (m k:Int) (hk:k=5∨k=6∨k=7) (a b:Int) (B:Nat) (A1 A2 A3 A4 A5:Option Addr) (c1 c2 c3 c4 c5:Nat) (w:World) (hS:ZaF w B A1 A2 A3 A4 c4 A5 ⟨d1,f1,ss1,d2,f2,ss2,st⟩ P pp) (hB:B≤w.heap.size) (hok:ZaI (Zd.mk d1 f1 ss1 d2 f2 ss2 st) P pp 1048576) (hw1:Zp (Zh.mk (Zd.mk d1 f1 ss1 d2 f2 ss2 st) P pp m)=true) (hac:ZaW k a b=true) :
  Calls Tryz.prog 126 #[.agg #[.int .i64 d1,.int .i64 f1,.slice A1 ss1.length c1,.int .i64 d2,.int .i64 f2,.slice A2 ss2.length c2,.slice A3 st.length c3,.slice A4 P.length c4,.slice A5 pp.length c5,.int .i64 m],.agg #[.int .i64 k,.int .i64 a,.int .i64 b]] w (ZfL (Zs (Zh.mk (Zd.mk d1 f1 ss1 d2 f2 ss2 st) P pp m) k a b).1.D.d1 (Zs (Zh.mk (Zd.mk d1 f1 ss1 d2 f2 ss2 st) P pp m) k a b).1.D.f1 (Zs (Zh.mk (Zd.mk d1 f1 ss1 d2 f2 ss2 st) P pp m) k a b).1.D.ss1 (Zs (Zh.mk (Zd.mk d1 f1 ss1 d2 f2 ss2 st) P pp m) k a b).1.D.d2 (Zs (Zh.mk (Zd.mk d1 f1 ss1 d2 f2 ss2 st) P pp m) k a b).1.D.f2 (Zs (Zh.mk (Zd.mk d1 f1 ss1 d2 f2 ss2 st) P pp m) k a b).1.D.ss2 (Zs (Zh.mk (Zd.mk d1 f1 ss1 d2 f2 ss2 st) P pp m) k a b).1.D.st (Zs (Zh.mk (Zd.mk d1 f1 ss1 d2 f2 ss2 st) P pp m) k a b).1.P (Zs (Zh.mk (Zd.mk d1 f1 ss1 d2 f2 ss2 st) P pp m) k a b).1.pp (Zs (Zh.mk (Zd.mk d1 f1 ss1 d2 f2 ss2 st) P pp m) k a b).1.m (Zs (Zh.mk (Zd.mk d1 f1 ss1 d2 f2 ss2 st) P pp m) k a b).2 w):=by
 rcases hk with rfl|rfl|rfl
 all_goals
  obtain ⟨ha0,ha9⟩:=ZnX hac
  have HR4:=Lib.hid (Zmz hw1 hac (by decide))
  have HW1:=Lib.hid hw1
  have HAC:=Lib.hid hac
  clear hw1 hac
  obtain ⟨nma,hnme⟩:∃ x,ZcN a=x:=⟨_,rfl⟩
  have hnma:nma.size≤16777216:=by rw [← hnme];have:=Zdm a;omega
  generalize Zs (Zh.mk (Zd.mk d1 f1 ss1 d2 f2 ss2 st) P pp m) _ a b=R at *
  first|(rw [ZnR] at HR4;rw [hnme] at HR4;have hcall:=fun (W:World) (hW1:ZaF W B A1 A2 A3 A4 c4 A5 (Zd.mk d1 f1 ss1 d2 f2 ss2 st) P pp) (hW2:B≤W.heap.size)=>Zli d1 f1 ss1 d2 f2 ss2 st P pp m nma B A1 A2 A3 A4 A5 c1 c2 c3 c4 c5 W hW1 hW2 hok hnma;generalize ZaC (Zh.mk (Zd.mk d1 f1 ss1 d2 f2 ss2 st) P pp m) nma=Q at *)|(rw [Zow] at HR4;rw [hnme] at HR4;have hcall:=fun (W:World) (hW1:ZaF W B A1 A2 A3 A4 c4 A5 (Zd.mk d1 f1 ss1 d2 f2 ss2 st) P pp) (hW2:B≤W.heap.size)=>ZjE d1 f1 ss1 d2 f2 ss2 st P pp m nma a b B A1 A2 A3 A4 A5 c1 c2 c3 c4 c5 W hW1 hW2 hok;generalize Zat (Zh.mk (Zd.mk d1 f1 ss1 d2 f2 ss2 st) P pp m) nma a b=Q at *)|(rw [Zoz] at HR4;rw [hnme] at HR4;have hcall:=fun (W:World) (hW1:ZaF W B A1 A2 A3 A4 c4 A5 (Zd.mk d1 f1 ss1 d2 f2 ss2 st) P pp) (hW2:B≤W.heap.size)=>ZjZ d1 f1 ss1 d2 f2 ss2 st P pp m nma B A1 A2 A3 A4 A5 c1 c2 c3 c4 c5 W hW1 hW2 hok;generalize Zah (Zh.mk (Zd.mk d1 f1 ss1 d2 f2 ss2 st) P pp m) nma=Q at *)
  obtain ⟨⟨⟨d1r,f1r,ss1r,d2r,f2r,ss2r,str⟩,Pr,ppr,mr⟩,rb⟩:=Q
  simp only at hcall HR4
  have HCALL:=Zk hcall
  clear hcall hok
  obtain ⟨xb,hxb⟩:∃ x:Int,(if rb=true then 1 else 0)=x:=⟨_,rfl⟩
  rw [hxb] at HR4
  go_enter Tryz.func126,Tryz.ntmps126
  go_wp2_with fail
  generalize e_:(World.alloc _ _)=w1
  symm at e_
  have k_a:=hkc e_ (Zb (Zb (bnk w.heap.size) _) _)
  have k_act:=hkc e_ (Zb (bnk (w.heap.size+1)) _)
  have k_r:=hkc e_ (bnk (w.heap.size+1+1))
  have hX_:Zj w w1:=by rw [e_];exact boxy
  have hb_:Below w.heap.size w w1:=by rw [e_];exact bel
  have c_w1:=hX_.size
  clear e_ hX_
  refine (Zaz d1 f1 ss1 d2 f2 ss2 st P pp m B A1 A2 A3 A4 A5 c1 c2 c3 c4 c5 w1 (hS.below (hb_.mono hB)) (Nat.le_trans hB hb_.size)).mono ?_
  rintro e w2 ⟨B1,e1,B2q,e2,B3,e3,B4,e4,B5,e5,rfl,hon,b_⟩
  replace k_a:=Za k_a b_
  replace k_act:=Za k_act b_
  replace k_r:=Za k_r b_
  have c_w2:=b_.size
  replace hb_:=hb_.trans (b_.mono hb_.size)
  clear b_
  have o_c:=hon
  clear hon
  obtain ⟨x0a,x1a,x2a,x3a,x4a,x5a,x6a,x7a,x8a,x9a,xla⟩:=Zq k_a
  go_wp2_with fail
  clear x0a x1a x2a x3a x4a x5a x6a x7a x8a x9a xla
  have l_a:=Zg k_a
  have l_act:=Zg k_act
  have l_r:=Zg k_r
  have lt_a_w3:=Zg k_a
  have lt_act_w3:=Zg k_act
  have lt_r_w3:=Zg k_r
  generalize e_:(World.alloc _ _)=w3
  symm at e_
  replace k_a:=hkc e_ (Zb k_a _)
  replace k_act:=hkc e_ (Zb k_act _)
  replace k_r:=hkc e_ (Zb k_r _)
  have k_o:=hkc e_ (bnk w2.heap.size)
  have hX_:Zj w2 w3:=by rw [e_];exact boxy
  replace o_c:=o_c.boxy hX_
  replace hb_:Below w.heap.size w w3:=by rw [e_];exact bel
  have c_w3:=hX_.size
  clear l_a l_act l_r e_ hX_
  refine (Zz d1 f1 ss1 d2 f2 ss2 st P pp m B A1 A2 A3 A4 A5 c1 c2 c3 c4 c5 w3 (hS.below (hb_.mono hB)) (Nat.le_trans hB hb_.size)).mono ?_
  rw [HW1.out]
  rintro e w4 ⟨rfl,b_⟩
  replace k_a:=Za k_a b_
  replace k_act:=Za k_act b_
  replace k_r:=Za k_r b_
  replace k_o:=Za k_o b_
  replace o_c:=o_c.below b_
  have c_w4:=b_.size
  replace hb_:=hb_.trans (b_.mono hb_.size)
  clear b_
  obtain ⟨x0act,x1act,x2act,xlact⟩:=Za8 k_act
  go_wp2_with fail
  clear x0act x1act x2act xlact
  refine (Zdi _ a b w4).mono ?_
  rw [HAC.out]
  rintro e w5 ⟨rfl,b_⟩
  replace k_a:=Za k_a b_
  replace k_act:=Za k_act b_
  replace k_r:=Za k_r b_
  replace k_o:=Za k_o b_
  replace o_c:=o_c.below b_
  have c_w5:=b_.size
  replace hb_:=hb_.trans (b_.mono hb_.size)
  clear b_
  clear o_c
  obtain ⟨x0act,x1act,x2act,xlact⟩:=Za8 k_act
  go_wp2
  clear x0act x1act x2act xlact
  have l_a:=Zg k_a
  have l_act:=Zg k_act
  have l_r:=Zg k_r
  have l_o:=Zg k_o
  have lt_a_w6:=Zg k_a
  have lt_act_w6:=Zg k_act
  have lt_r_w6:=Zg k_r
  have lt_o_w6:=Zg k_o
  generalize e_:(World.alloc _ _)=w6
  symm at e_
  replace k_a:=hkc e_ (Zb k_a _)
  replace k_act:=hkc e_ (Zb k_act _)
  replace k_r:=hkc e_ (Zb k_r _)
  replace k_o:=hkc e_ (Zb k_o _)
  have k_bx:=hkc e_ (bnk w5.heap.size)
  have hX_:Zj w5 w6:=by rw [e_];exact boxy
  replace hb_:Below w.heap.size w w6:=by rw [e_];exact bel
  have c_w6:=hX_.size
  clear l_a l_act l_r l_o e_ hX_
  obtain ⟨x0a,x1a,x2a,x3a,x4a,x5a,x6a,x7a,x8a,x9a,xla⟩:=Zq k_a
  obtain ⟨x0act,x1act,x2act,xlact⟩:=Za8 k_act
  have hsB:=hb_.size
  have hSq:=hS.below (hb_.mono hB)
  have hB2:B≤w.heap.size+1+1:=by omega
  have hB3:B≤w6.heap.size:=by omega
  have hz2q:w.heap.size+1+1≤w6.heap.size:=by have h9:=Zg k_r;omega
  go_region_held3 (fun W=>(∀ b o,b<w.heap.size+1+1→W.cell? ⟨b,o,none⟩=(w6).cell? ⟨b,o,none⟩)∧(∀ b o,b<w.heap.size+1+1→W.frozen? ⟨b,o,none⟩=(w6).frozen? ⟨b,o,none⟩)∧Below (w.heap.size+1+1) (w6) W) (exact ZbA bel) (first|(go_at_call 176;have hq:=(‹_∧_∧Below _ _ _›).2.2;refine (ZnA a _ ha0 ha9).mono ?_;rw [hnme];rintro e w3 ⟨rfl,hb3⟩;have hqs3:=hq.size;have hbs3:=hb3.size;(try simp at hqs3);(try simp at hbs3);(have hb3X:Below w6.heap.size w6 w3:=(by first|exact hb3|exact ⟨hb3.os,hb3.tape,hb3.output,hb3.size,hb3.block⟩)))|((first|go_at_call 132|go_at_call 177|go_at_call 178);have hq:=(‹_∧_∧Below _ _ _›).2.2;refine (Ze HCALL _ (hSq.below (hq.mono hB2)) (Nat.le_trans hB3 hq.size)).mono ?_;rintro e w4 ⟨G1,q1,G2,q2,G3,q3,G4,q4,G5,q5,rfl,ho4,hb4⟩;(have ho4X:=ho4.wide (lo':=w.heap.size) (Nat.le_trans hsB hq.size) (Nat.le_refl _));have hqs4:=hq.size;have hbs4:=hb4.size;(try simp at hqs4);(try simp at hbs4);(have hb4X:Below w3.heap.size w3 w4:=(by first|exact hb4|exact ⟨hb4.os,hb4.tape,hb4.output,hb4.size,hb4.block⟩));(have hkz_a:=Za (Za k_a hb3X) hb4X);(have hkz_act:=Za (Za k_act hb3X) hb4X);(have hkz_r:=Za (Za k_r hb3X) hb4X);(have hkz_o:=Za (Za k_o hb3X) hb4X);(have hkz_bx:=Za (Za k_bx hb3X) hb4X);obtain ⟨hv0,hv1,hv2,hv3,hv4,hv5,hv6,hv7,hv8,hv9,hvl⟩:=Zq hkz_o;obtain ⟨⟨hf0,hf1,hf2,hf3,hf4⟩,hf5,hf6,hf7,hf8,hf9⟩:=Zd5 hkz_o))
  all_goals (
   have hbw4:Below w.heap.size w w4:=hb_.trans ((hb3X.mono hsB).trans (hb4X.mono (Nat.le_trans hsB hb3X.size)))
   have qaa:=hbw4.size
   have hs34:=Nat.le_trans hb3X.size hb4X.size
   clear hb3 hb4 hb3X hb4X
   go_wp2
   have l_a:=Zg hkz_a
   have l_act:=Zg hkz_act
   have l_r:=Zg hkz_r
   have l_o:=Zg hkz_o
   have l_bx:=Zg hkz_bx
   have bx_o:=Zl hkz_o
   generalize e_:(World.setCell _ _ _)=w7
   symm at e_
   have k_a:=hkc e_ (Zf (Zf (Zf (Zf (Zf (Zf (Zf (Zf (Zf (Zf hkz_a (show ¬w.heap.size=w2.heap.size by omega) _) (show ¬w.heap.size=w2.heap.size by omega) _) (show ¬w.heap.size=w2.heap.size by omega) _) (show ¬w.heap.size=w2.heap.size by omega) _) (show ¬w.heap.size=w2.heap.size by omega) _) (show ¬w.heap.size=w2.heap.size by omega) _) (show ¬w.heap.size=w2.heap.size by omega) _) (show ¬w.heap.size=w2.heap.size by omega) _) (show ¬w.heap.size=w2.heap.size by omega) _) (show ¬w.heap.size=w2.heap.size by omega) _)
   have k_act:=hkc e_ (Zf (Zf (Zf (Zf (Zf (Zf (Zf (Zf (Zf (Zf hkz_act (show ¬w.heap.size+1=w2.heap.size by omega) _) (show ¬w.heap.size+1=w2.heap.size by omega) _) (show ¬w.heap.size+1=w2.heap.size by omega) _) (show ¬w.heap.size+1=w2.heap.size by omega) _) (show ¬w.heap.size+1=w2.heap.size by omega) _) (show ¬w.heap.size+1=w2.heap.size by omega) _) (show ¬w.heap.size+1=w2.heap.size by omega) _) (show ¬w.heap.size+1=w2.heap.size by omega) _) (show ¬w.heap.size+1=w2.heap.size by omega) _) (show ¬w.heap.size+1=w2.heap.size by omega) _)
   have k_r:=hkc e_ (Zf (Zf (Zf (Zf (Zf (Zf (Zf (Zf (Zf (Zf hkz_r (show ¬w.heap.size+1+1=w2.heap.size by omega) _) (show ¬w.heap.size+1+1=w2.heap.size by omega) _) (show ¬w.heap.size+1+1=w2.heap.size by omega) _) (show ¬w.heap.size+1+1=w2.heap.size by omega) _) (show ¬w.heap.size+1+1=w2.heap.size by omega) _) (show ¬w.heap.size+1+1=w2.heap.size by omega) _) (show ¬w.heap.size+1+1=w2.heap.size by omega) _) (show ¬w.heap.size+1+1=w2.heap.size by omega) _) (show ¬w.heap.size+1+1=w2.heap.size by omega) _) (show ¬w.heap.size+1+1=w2.heap.size by omega) _)
   have k_o:w7.heap[w2.heap.size]?=some (.cells #[.int .i64 d1r,.int .i64 f1r,.slice G1 ss1r.length q1,.int .i64 d2r,.int .i64 f2r,.slice G2 ss2r.length q2,.slice G3 str.length q3,.slice G4 Pr.length q4,.slice G5 ppr.length q5,.int .i64 mr] 33 (0,0)):=by rw [e_];have hq9:=(Zu (Zu (Zu (Zu (Zu (Zu (Zu (Zu (Zu (Zu hkz_o 0 (.int .i64 d1r)) 1 (.int .i64 f1r)) 2 (.slice G1 ss1r.length q1)) 3 (.int .i64 d2r)) 4 (.int .i64 f2r)) 5 (.slice G2 ss2r.length q2)) 6 (.slice G3 str.length q3)) 7 (.slice G4 Pr.length q4)) 8 (.slice G5 ppr.length q5)) 9 (.int .i64 mr));simpa using hq9
   have k_bx:=hkc e_ (Zf (Zf (Zf (Zf (Zf (Zf (Zf (Zf (Zf (Zf hkz_bx (show ¬w5.heap.size=w2.heap.size by omega) _) (show ¬w5.heap.size=w2.heap.size by omega) _) (show ¬w5.heap.size=w2.heap.size by omega) _) (show ¬w5.heap.size=w2.heap.size by omega) _) (show ¬w5.heap.size=w2.heap.size by omega) _) (show ¬w5.heap.size=w2.heap.size by omega) _) (show ¬w5.heap.size=w2.heap.size by omega) _) (show ¬w5.heap.size=w2.heap.size by omega) _) (show ¬w5.heap.size=w2.heap.size by omega) _) (show ¬w5.heap.size=w2.heap.size by omega) _)
   have hX_:Zj w4 w7:=by rw [e_];exact boxy
   have o_n:=ho4X.boxy hX_
   have hb_:Below w.heap.size w w7:=by rw [e_];exact bel
   have c_w7:=hX_.size
   clear l_a l_act l_r l_o l_bx bx_o e_ hkz_a hkz_act hkz_r hkz_o hkz_bx hX_ ho4X hbw4
   obtain ⟨x0o,x1o,x2o,x3o,x4o,x5o,x6o,x7o,x8o,x9o,xlo⟩:=Zq k_o
   obtain ⟨⟨x0r,x1r,x2r,x3r,x4r,x5r,x6r,x7r,x8r,x9r,xlr⟩,z0r,z1r,z2r,z3r,z4r,z5r,z6r,z7r,z8r,z9r⟩:=Za2 k_r
   go_region_with (go_at_call 180;refine (Zjs rb _).mono ?_;rw [hxb];rintro e w9 ⟨rfl,rfl⟩))
  all_goals (
   go_wp2
   refine bodyPost_ret (v:=.tuple #[.agg #[.int .i64 d1r,.int .i64 f1r,.slice G1 ss1r.length q1,.int .i64 d2r,.int .i64 f2r,.slice G2 ss2r.length q2,.slice G3 str.length q3,.slice G4 Pr.length q4,.slice G5 ppr.length q5,.int .i64 mr],.int .i64 xb]) (by simp [results,Tryz.results126,go_sem, *]) rfl ?_
   have qba:=Zl k_r
   obtain ⟨wE,heE⟩:∃ x,x=((((((((((w7.setCell ⟨w.heap.size+1+1,0,none⟩ (.int .i64 d1r)).setCell ⟨w.heap.size+1+1,1,none⟩ (.int .i64 f1r)).setCell ⟨w.heap.size+1+1,2,none⟩ (.slice G1 ss1r.length q1)).setCell ⟨w.heap.size+1+1,3,none⟩ (.int .i64 d2r)).setCell ⟨w.heap.size+1+1,4,none⟩ (.int .i64 f2r)).setCell ⟨w.heap.size+1+1,5,none⟩ (.slice G2 ss2r.length q2)).setCell ⟨w.heap.size+1+1,6,none⟩ (.slice G3 str.length q3)).setCell ⟨w.heap.size+1+1,7,none⟩ (.slice G4 Pr.length q4)).setCell ⟨w.heap.size+1+1,8,none⟩ (.slice G5 ppr.length q5)).setCell ⟨w.heap.size+1+1,9,none⟩ (.int .i64 mr)):=⟨_,rfl⟩
   have hBX:Zj w7 wE:=by rw [heE];exact boxy
   have hBW:Below w.heap.size w wE:=by rw [heE];exact bel
   have hsE:wE.heap.size=w7.heap.size:=by rw [heE];simp [World.setCell]
   have hOW:Zau wE w.heap.size wE.heap.size G1 q1 G2 q2 G3 q3 G4 q4 G5 q5 (Zd.mk d1r f1r ss1r d2r f2r ss2r str) Pr ppr:=(o_n.boxy hBX).wide (by omega) (by omega)
   rw [← heE]
   clear heE
   first|(with_reducible exact Zbz HR4.out ⟨G1,q1,G2,q2,G3,q3,G4,q4,G5,q5,rfl,hOW.drew,hBW.drew⟩)|(with_reducible exact Zbz HR4.out ⟨G1,q1,G2,q2,G3,q3,G4,q4,G5,q5,rfl,hOW.drew.drew,hBW.drew.drew⟩)|exact Zbz HR4.out ⟨G1,q1,G2,q2,G3,q3,G4,q4,G5,q5,rfl,hOW.drew,hBW.drew⟩|exact Zbz HR4.out ⟨G1,q1,G2,q2,G3,q3,G4,q4,G5,q5,rfl,hOW.drew.drew,hBW.drew.drew⟩|exact Zbz HR4.out ⟨G1,q1,G2,q2,G3,q3,G4,q4,G5,q5,rfl,hOW,hBW⟩)
end Go.Proofs.YtlimlolciekimaaGreatDoor
