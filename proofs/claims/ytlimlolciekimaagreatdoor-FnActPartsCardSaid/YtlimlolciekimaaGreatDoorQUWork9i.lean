/- The contract of DoAct of the program. -/
import Derived.Test.YtlimlolciekimaaGreatDoorRows
import Derived.Test.YtlimlolciekimaaGreatDoorQUWork9p
namespace Go.Proofs.YtlimlolciekimaaGreatDoor
set_option maxHeartbeats 1600000
open Go.ChangeShapes Go.WideShapes Go.ChangeAt Go.RowKit
set_option linter.unusedVariables false
set_option linter.unusedSimpArgs false
set_option maxRecDepth 10000
theorem i_DoAct (d1 f1:Int) (ss1:List ByteArray) (d2 f2:Int) (ss2:List ByteArray) (st:List PStep) (P:List PItem) (pp:List PPaper) (m:Int) (k a b:Int) (B:Nat) (A1 A2 A3 A4 A5:Option Addr) (c1 c2 c3 c4 c5:Nat) (w:World) (hS:RdWork w B A1 A2 A3 A4 c4 A5 ⟨d1,f1,ss1,d2,f2,ss2,st⟩ P pp) (hB:B≤w.heap.size) (hok:OkWork (PDraft.mk d1 f1 ss1 d2 f2 ss2 st) P pp 1048576) :
  Calls Tryz.prog 42 #[.agg #[.int .i64 d1,.int .i64 f1,.slice A1 ss1.length c1,.int .i64 d2,.int .i64 f2,.slice A2 ss2.length c2,.slice A3 st.length c3,.slice A4 P.length c4,.slice A5 pp.length c5,.int .i64 m],.agg #[.int .i64 k,.int .i64 a,.int .i64 b]] w (UWorkI (doActRes (PWork.mk (PDraft.mk d1 f1 ss1 d2 f2 ss2 st) P pp m) k a b).1.D.d1 (doActRes (PWork.mk (PDraft.mk d1 f1 ss1 d2 f2 ss2 st) P pp m) k a b).1.D.f1 (doActRes (PWork.mk (PDraft.mk d1 f1 ss1 d2 f2 ss2 st) P pp m) k a b).1.D.ss1 (doActRes (PWork.mk (PDraft.mk d1 f1 ss1 d2 f2 ss2 st) P pp m) k a b).1.D.d2 (doActRes (PWork.mk (PDraft.mk d1 f1 ss1 d2 f2 ss2 st) P pp m) k a b).1.D.f2 (doActRes (PWork.mk (PDraft.mk d1 f1 ss1 d2 f2 ss2 st) P pp m) k a b).1.D.ss2 (doActRes (PWork.mk (PDraft.mk d1 f1 ss1 d2 f2 ss2 st) P pp m) k a b).1.D.st (doActRes (PWork.mk (PDraft.mk d1 f1 ss1 d2 f2 ss2 st) P pp m) k a b).1.P (doActRes (PWork.mk (PDraft.mk d1 f1 ss1 d2 f2 ss2 st) P pp m) k a b).1.pp (doActRes (PWork.mk (PDraft.mk d1 f1 ss1 d2 f2 ss2 st) P pp m) k a b).1.m (doActRes (PWork.mk (PDraft.mk d1 f1 ss1 d2 f2 ss2 st) P pp m) k a b).2 w):=by
 cases hw1:workOk (PWork.mk (PDraft.mk d1 f1 ss1 d2 f2 ss2 st) P pp m)
 case false =>
  have HR4:=Lib.hid (act_no1 (k:=k) (a:=a) (b:=b) hw1)
  have HW1:=Lib.hid hw1
  clear hw1 hok
  generalize doActRes (PWork.mk (PDraft.mk d1 f1 ss1 d2 f2 ss2 st) P pp m) k a b=R at *
  go_enter Tryz.func42,Tryz.ntmps42
  go_wp2_with fail
  generalize e_:(World.alloc _ _)=w1
  symm at e_
  have k_a:=hkc e_ (blk_alloc (blk_alloc (bnk w.heap.size) _) _)
  have k_act:=hkc e_ (blk_alloc (bnk (w.heap.size+1)) _)
  have k_r:=hkc e_ (bnk (w.heap.size+1+1))
  have hX_:Boxy w w1:=by rw [e_];exact boxy
  have hb_:Below w.heap.size w w1:=by rw [e_];exact bel
  have c_w1:=hX_.size
  clear e_ hX_
  refine (i_WorkshopOk d1 f1 ss1 d2 f2 ss2 st P pp m B A1 A2 A3 A4 A5 c1 c2 c3 c4 c5 w1 (hS.below (hb_.mono hB)) (Nat.le_trans hB hb_.size)).mono ?_
  rw [HW1.out]
  rintro e w2 ⟨rfl,b_⟩
  replace k_a:=blk_next k_a b_
  replace k_act:=blk_next k_act b_
  replace k_r:=blk_next k_r b_
  have c_w2:=b_.size
  replace hb_:=hb_.trans (b_.mono hb_.size)
  clear b_
  obtain ⟨x0a,x1a,x2a,x3a,x4a,x5a,x6a,x7a,x8a,x9a,xla⟩:=blk10 k_a
  go_wp2_with fail
  clear x0a x1a x2a x3a x4a x5a x6a x7a x8a x9a xla
  refine (i_workCopied d1 f1 ss1 d2 f2 ss2 st P pp m B A1 A2 A3 A4 A5 c1 c2 c3 c4 c5 w2 (hS.below (hb_.mono hB)) (Nat.le_trans hB hb_.size)).mono ?_
  rintro e w3 ⟨B1,e1,B2q,e2,B3,e3,B4,e4,B5,e5,rfl,hon,b_⟩
  replace k_a:=blk_next k_a b_
  replace k_act:=blk_next k_act b_
  replace k_r:=blk_next k_r b_
  have c_w3:=b_.size
  replace hb_:=hb_.trans (b_.mono hb_.size)
  clear b_
  have o_c:=hon
  clear hon
  obtain ⟨⟨x0r,x1r,x2r,x3r,x4r,x5r,x6r,x7r,x8r,x9r,xlr⟩,z0r,z1r,z2r,z3r,z4r,z5r,z6r,z7r,z8r,z9r⟩:=ba10 k_r
  go_wp2
  refine bodyPost_ret (v:=.tuple #[.agg #[.int .i64 d1,.int .i64 f1,.slice B1 ss1.length e1,.int .i64 d2,.int .i64 f2,.slice B2q ss2.length e2,.slice B3 st.length e3,.slice B4 P.length e4,.slice B5 pp.length e5,.int .i64 m],.int .i64 (-1)]) (by simp [results,Tryz.results42,go_sem, *]) rfl ?_
  clear x0r x1r x2r x3r x4r x5r x6r x7r x8r x9r xlr z0r z1r z2r z3r z4r z5r z6r z7r z8r z9r
  have o9_:OwnW w3 w.heap.size w3.heap.size B1 e1 B2q e2 B3 e3 B4 e4 B5 e5 (PDraft.mk d1 f1 ss1 d2 f2 ss2 st) P pp:=o_c.wide (by omega) (by omega)
  exact uwi_cast HR4.out ⟨B1,e1,B2q,e2,B3,e3,B4,e4,B5,e5,rfl,endw k_r o9_ hb_ (by omega)⟩
 case true =>
  have HW1:=Lib.hid hw1
  cases hac:actOk k a b
  case false =>
   have HR4:=Lib.hid (act_no2 (W:=(PWork.mk (PDraft.mk d1 f1 ss1 d2 f2 ss2 st) P pp m)) hac)
   have HAC:=Lib.hid hac
   clear hw1 hac hok
   generalize doActRes (PWork.mk (PDraft.mk d1 f1 ss1 d2 f2 ss2 st) P pp m) k a b=R at *
   go_enter Tryz.func42,Tryz.ntmps42
   go_wp2_with fail
   generalize e_:(World.alloc _ _)=w1
   symm at e_
   have k_a:=hkc e_ (blk_alloc (blk_alloc (bnk w.heap.size) _) _)
   have k_act:=hkc e_ (blk_alloc (bnk (w.heap.size+1)) _)
   have k_r:=hkc e_ (bnk (w.heap.size+1+1))
   have hX_:Boxy w w1:=by rw [e_];exact boxy
   have hb_:Below w.heap.size w w1:=by rw [e_];exact bel
   have c_w1:=hX_.size
   clear e_ hX_
   refine (i_WorkshopOk d1 f1 ss1 d2 f2 ss2 st P pp m B A1 A2 A3 A4 A5 c1 c2 c3 c4 c5 w1 (hS.below (hb_.mono hB)) (Nat.le_trans hB hb_.size)).mono ?_
   rw [HW1.out]
   rintro e w2 ⟨rfl,b_⟩
   replace k_a:=blk_next k_a b_
   replace k_act:=blk_next k_act b_
   replace k_r:=blk_next k_r b_
   have c_w2:=b_.size
   replace hb_:=hb_.trans (b_.mono hb_.size)
   clear b_
   obtain ⟨x0act,x1act,x2act,xlact⟩:=blk3 k_act
   go_wp2_with fail
   clear x0act x1act x2act xlact
   refine (i_ActOk k a b w2).mono ?_
   rw [HAC.out]
   rintro e w3 ⟨rfl,b_⟩
   replace k_a:=blk_next k_a b_
   replace k_act:=blk_next k_act b_
   replace k_r:=blk_next k_r b_
   have c_w3:=b_.size
   replace hb_:=hb_.trans (b_.mono hb_.size)
   clear b_
   obtain ⟨x0a,x1a,x2a,x3a,x4a,x5a,x6a,x7a,x8a,x9a,xla⟩:=blk10 k_a
   go_wp2_with fail
   clear x0a x1a x2a x3a x4a x5a x6a x7a x8a x9a xla
   refine (i_workCopied d1 f1 ss1 d2 f2 ss2 st P pp m B A1 A2 A3 A4 A5 c1 c2 c3 c4 c5 w3 (hS.below (hb_.mono hB)) (Nat.le_trans hB hb_.size)).mono ?_
   rintro e w4 ⟨B1,e1,B2q,e2,B3,e3,B4,e4,B5,e5,rfl,hon,b_⟩
   replace k_a:=blk_next k_a b_
   replace k_act:=blk_next k_act b_
   replace k_r:=blk_next k_r b_
   have c_w4:=b_.size
   replace hb_:=hb_.trans (b_.mono hb_.size)
   clear b_
   have o_c:=hon
   clear hon
   obtain ⟨⟨x0r,x1r,x2r,x3r,x4r,x5r,x6r,x7r,x8r,x9r,xlr⟩,z0r,z1r,z2r,z3r,z4r,z5r,z6r,z7r,z8r,z9r⟩:=ba10 k_r
   go_wp2
   refine bodyPost_ret (v:=.tuple #[.agg #[.int .i64 d1,.int .i64 f1,.slice B1 ss1.length e1,.int .i64 d2,.int .i64 f2,.slice B2q ss2.length e2,.slice B3 st.length e3,.slice B4 P.length e4,.slice B5 pp.length e5,.int .i64 m],.int .i64 (-1)]) (by simp [results,Tryz.results42,go_sem, *]) rfl ?_
   clear x0r x1r x2r x3r x4r x5r x6r x7r x8r x9r xlr z0r z1r z2r z3r z4r z5r z6r z7r z8r z9r
   have o9_:OwnW w4 w.heap.size w4.heap.size B1 e1 B2q e2 B3 e3 B4 e4 B5 e5 (PDraft.mk d1 f1 ss1 d2 f2 ss2 st) P pp:=o_c.wide (by omega) (by omega)
   exact uwi_cast HR4.out ⟨B1,e1,B2q,e2,B3,e3,B4,e4,B5,e5,rfl,endw k_r o9_ hb_ (by omega)⟩
  case true =>
   have HAC:=Lib.hid hac
   by_cases h8:k=8
   ·subst h8
    have HR4:=Lib.hid (act_8 hw1 hac)
    clear hw1 hac hok
    simp only at HR4
    generalize doActRes (PWork.mk (PDraft.mk d1 f1 ss1 d2 f2 ss2 st) P pp m) 8 a b=R at *
    go_enter Tryz.func42,Tryz.ntmps42
    go_wp2_with fail
    generalize e_:(World.alloc _ _)=w1
    symm at e_
    have k_a:=hkc e_ (blk_alloc (blk_alloc (bnk w.heap.size) _) _)
    have k_act:=hkc e_ (blk_alloc (bnk (w.heap.size+1)) _)
    have k_r:=hkc e_ (bnk (w.heap.size+1+1))
    have hX_:Boxy w w1:=by rw [e_];exact boxy
    have hb_:Below w.heap.size w w1:=by rw [e_];exact bel
    have c_w1:=hX_.size
    clear e_ hX_
    refine (i_WorkshopOk d1 f1 ss1 d2 f2 ss2 st P pp m B A1 A2 A3 A4 A5 c1 c2 c3 c4 c5 w1 (hS.below (hb_.mono hB)) (Nat.le_trans hB hb_.size)).mono ?_
    rw [HW1.out]
    rintro e w2 ⟨rfl,b_⟩
    replace k_a:=blk_next k_a b_
    replace k_act:=blk_next k_act b_
    replace k_r:=blk_next k_r b_
    have c_w2:=b_.size
    replace hb_:=hb_.trans (b_.mono hb_.size)
    clear b_
    obtain ⟨x0act,x1act,x2act,xlact⟩:=blk3 k_act
    go_wp2_with fail
    clear x0act x1act x2act xlact
    refine (i_ActOk 8 a b w2).mono ?_
    rw [HAC.out]
    rintro e w3 ⟨rfl,b_⟩
    replace k_a:=blk_next k_a b_
    replace k_act:=blk_next k_act b_
    replace k_r:=blk_next k_r b_
    have c_w3:=b_.size
    replace hb_:=hb_.trans (b_.mono hb_.size)
    clear b_
    obtain ⟨x0act,x1act,x2act,xlact⟩:=blk3 k_act
    go_wp2
    clear x0act x1act x2act xlact
    obtain ⟨x0a,x1a,x2a,x3a,x4a,x5a,x6a,x7a,x8a,x9a,xla⟩:=blk10 k_a
    have hsB:=hb_.size
    have hSq:=hS.below (hb_.mono hB)
    have hB2:B≤w.heap.size+1+1:=by omega
    have hB3:B≤w3.heap.size:=by omega
    have hz2q:w.heap.size+1+1≤w3.heap.size:=by have h9:=blk_lt k_r;omega
    go_region_held3 (fun W=>(∀ b o,b<w.heap.size+1+1→W.cell? ⟨b,o,none⟩=(w3).cell? ⟨b,o,none⟩)∧(∀ b o,b<w.heap.size+1+1→W.frozen? ⟨b,o,none⟩=(w3).frozen? ⟨b,o,none⟩)∧Below (w.heap.size+1+1) (w3) W) (exact keep_of bel) (first|(go_at_call 41;have hq:=(‹_∧_∧Below _ _ _›).2.2;refine (i_workCopied d1 f1 ss1 d2 f2 ss2 st P pp m B A1 A2 A3 A4 A5 c1 c2 c3 c4 c5 _ (hSq.below (hq.mono hB2)) (Nat.le_trans hB3 hq.size)).mono ?_;rintro e w31 ⟨B1,e1,B2q,e2,B3,e3,B4,e4,B5,e5,rfl,ho31,hb31⟩;(have ho31X:=ho31.wide (lo':=w.heap.size) (Nat.le_trans hsB hq.size) (Nat.le_refl _));have hqs31:=hq.size;have hbs31:=hb31.size;(try simp at hqs31);(try simp at hbs31);(have hb31X:Below w3.heap.size w3 w31:=(by first|exact hb31|exact ⟨hb31.os,hb31.tape,hb31.output,hb31.size,hb31.block⟩));(have hkz_r1:=blk_next k_r hb31X))|(go_at_call 87;have hq:=(‹_∧_∧Below _ _ _›).2.2;refine (i_VolumeOf d2 f2 B A2 _ c2 ss2 _ (hSq.d.s2.below (hq.mono hB2)) (Nat.le_trans hB3 hq.size)).mono ?_;rintro e w32 ⟨rfl,hb32⟩;have hqs32:=hq.size;have hbs32:=hb32.size;(try simp at hqs32);(try simp at hbs32);(have hb32X:Below w31.heap.size w31 w32:=(by first|exact hb32|exact ⟨hb32.os,hb32.tape,hb32.output,hb32.size,hb32.block⟩));(have hkz_r:=blk_next hkz_r1 hb32X);obtain ⟨hv0,hv1,hv2,hv3,hv4,hv5,hv6,hv7,hv8,hv9,hvl⟩:=blk10 hkz_r;obtain ⟨⟨hf0,hf1,hf2,hf3,hf4⟩,hf5,hf6,hf7,hf8,hf9⟩:=blk10f hkz_r))
    all_goals (
     go_wp2
     have hbw4:Below w.heap.size w w32:=hb_.trans ((hb31X.mono hsB).trans (hb32X.mono (Nat.le_trans hsB hb31X.size)))
     have hs34:=Nat.le_trans hb31X.size hb32X.size
     have ho32:=ho31X.below hb32X
     refine bodyPost_ret (v:=.tuple #[.agg #[.int .i64 d1,.int .i64 f1,.slice B1 ss1.length e1,.int .i64 d2,.int .i64 f2,.slice B2q ss2.length e2,.slice B3 st.length e3,.slice B4 P.length e4,.slice B5 pp.length e5,.int .i64 m],.int .i64 (volOf d2 f2 ss2)]) (by simp [results,Tryz.results42,go_sem, *]) rfl ?_
     have qaa:=boxAt_of hkz_r
     have hs31X:=hb32X.size
     clear hb31 hb32 hb31X hb32X
     obtain ⟨wE,heE⟩:∃ x,x=((((((((((w32.setCell ⟨w.heap.size+1+1,0,none⟩ (.int .i64 d1)).setCell ⟨w.heap.size+1+1,1,none⟩ (.int .i64 f1)).setCell ⟨w.heap.size+1+1,2,none⟩ (.slice B1 ss1.length e1)).setCell ⟨w.heap.size+1+1,3,none⟩ (.int .i64 d2)).setCell ⟨w.heap.size+1+1,4,none⟩ (.int .i64 f2)).setCell ⟨w.heap.size+1+1,5,none⟩ (.slice B2q ss2.length e2)).setCell ⟨w.heap.size+1+1,6,none⟩ (.slice B3 st.length e3)).setCell ⟨w.heap.size+1+1,7,none⟩ (.slice B4 P.length e4)).setCell ⟨w.heap.size+1+1,8,none⟩ (.slice B5 pp.length e5)).setCell ⟨w.heap.size+1+1,9,none⟩ (.int .i64 m)):=⟨_,rfl⟩
     have hBX:Boxy w32 wE:=by rw [heE];exact boxy
     have hBW:Below w.heap.size w wE:=by rw [heE];exact bel
     have hsE:wE.heap.size=w32.heap.size:=by rw [heE];simp [World.setCell]
     rw [← heE]
     have hOW:OwnW wE w.heap.size wE.heap.size B1 e1 B2q e2 B3 e3 B4 e4 B5 e5 (PDraft.mk d1 f1 ss1 d2 f2 ss2 st) P pp:=(ho32.boxy hBX).wide (by omega) (by omega)
     exact uwi_cast HR4.out ⟨B1,e1,B2q,e2,B3,e3,B4,e4,B5,e5,rfl,hOW,hBW⟩)
   ·have hcall:=fun (W:World) (hW1:RdWork W B A1 A2 A3 A4 c4 A5 (PDraft.mk d1 f1 ss1 d2 f2 ss2 st) P pp) (hW2:B≤W.heap.size)=>i_perform d1 f1 ss1 d2 f2 ss2 st P pp m k a b B A1 A2 A3 A4 A5 c1 c2 c3 c4 c5 W hW1 hW2 hok hac h8
    have hy:=fun h=>act_yes hw1 hac h8 h
    have hn:=fun h=>act_not hw1 hac h8 h
    generalize doActRes (PWork.mk (PDraft.mk d1 f1 ss1 d2 f2 ss2 st) P pp m) k a b=R at *
    generalize perf (PWork.mk (PDraft.mk d1 f1 ss1 d2 f2 ss2 st) P pp m) k a b=Q at *
    obtain ⟨⟨⟨d1r,f1r,ss1r,d2r,f2r,ss2r,str⟩,Pr,ppr,mr⟩,rb⟩:=Q
    simp only at hcall hy hn
    have HCALL:=hide hcall
    clear hcall hok hw1 hac
    cases rb
    case true =>
     have HR4:=Lib.hid (hy rfl)
     clear hy hn
     go_enter Tryz.func42,Tryz.ntmps42
     go_wp2_with fail
     generalize e_:(World.alloc _ _)=w1
     symm at e_
     have k_a:=hkc e_ (blk_alloc (blk_alloc (bnk w.heap.size) _) _)
     have k_act:=hkc e_ (blk_alloc (bnk (w.heap.size+1)) _)
     have k_r:=hkc e_ (bnk (w.heap.size+1+1))
     have hX_:Boxy w w1:=by rw [e_];exact boxy
     have hb_:Below w.heap.size w w1:=by rw [e_];exact bel
     have c_w1:=hX_.size
     clear e_ hX_
     refine (i_WorkshopOk d1 f1 ss1 d2 f2 ss2 st P pp m B A1 A2 A3 A4 A5 c1 c2 c3 c4 c5 w1 (hS.below (hb_.mono hB)) (Nat.le_trans hB hb_.size)).mono ?_
     rw [HW1.out]
     rintro e w2 ⟨rfl,b_⟩
     replace k_a:=blk_next k_a b_
     replace k_act:=blk_next k_act b_
     replace k_r:=blk_next k_r b_
     have c_w2:=b_.size
     replace hb_:=hb_.trans (b_.mono hb_.size)
     clear b_
     obtain ⟨x0act,x1act,x2act,xlact⟩:=blk3 k_act
     go_wp2_with fail
     clear x0act x1act x2act xlact
     refine (i_ActOk k a b w2).mono ?_
     rw [HAC.out]
     rintro e w3 ⟨rfl,b_⟩
     replace k_a:=blk_next k_a b_
     replace k_act:=blk_next k_act b_
     replace k_r:=blk_next k_r b_
     have c_w3:=b_.size
     replace hb_:=hb_.trans (b_.mono hb_.size)
     clear b_
     obtain ⟨x0a,x1a,x2a,x3a,x4a,x5a,x6a,x7a,x8a,x9a,xla⟩:=blk10 k_a
     obtain ⟨x0act,x1act,x2act,xlact⟩:=blk3 k_act
     go_wp2_with fail
     clear x0a x1a x2a x3a x4a x5a x6a x7a x8a x9a xla x0act x1act x2act xlact
     refine (unhide HCALL _ (hS.below (hb_.mono hB)) (Nat.le_trans hB hb_.size)).mono ?_
     rintro e w4 ⟨G1,q1,G2,q2,G3,q3,G4,q4,G5,q5,rfl,hon,b_⟩
     replace k_a:=blk_next k_a b_
     replace k_act:=blk_next k_act b_
     replace k_r:=blk_next k_r b_
     have c_w4:=b_.size
     replace hb_:=hb_.trans (b_.mono hb_.size)
     clear b_
     have o_n:=hon
     clear hon
     obtain ⟨⟨x0r,x1r,x2r,x3r,x4r,x5r,x6r,x7r,x8r,x9r,xlr⟩,z0r,z1r,z2r,z3r,z4r,z5r,z6r,z7r,z8r,z9r⟩:=ba10 k_r
     go_wp2
     have qaa:=boxAt_of k_r
     refine bodyPost_ret (v:=.tuple #[.agg #[.int .i64 d1r,.int .i64 f1r,.slice G1 ss1r.length q1,.int .i64 d2r,.int .i64 f2r,.slice G2 ss2r.length q2,.slice G3 str.length q3,.slice G4 Pr.length q4,.slice G5 ppr.length q5,.int .i64 mr],.int .i64 1]) (by simp [results,Tryz.results42,go_sem, *]) rfl ?_
     clear x0r x1r x2r x3r x4r x5r x6r x7r x8r x9r xlr z0r z1r z2r z3r z4r z5r z6r z7r z8r z9r
     obtain ⟨wD,heD⟩:∃ x,x=((((((((((w4.setCell ⟨w.heap.size+1+1,0,none⟩ (.int .i64 d1r)).setCell ⟨w.heap.size+1+1,1,none⟩ (.int .i64 f1r)).setCell ⟨w.heap.size+1+1,2,none⟩ (.slice G1 ss1r.length q1)).setCell ⟨w.heap.size+1+1,3,none⟩ (.int .i64 d2r)).setCell ⟨w.heap.size+1+1,4,none⟩ (.int .i64 f2r)).setCell ⟨w.heap.size+1+1,5,none⟩ (.slice G2 ss2r.length q2)).setCell ⟨w.heap.size+1+1,6,none⟩ (.slice G3 str.length q3)).setCell ⟨w.heap.size+1+1,7,none⟩ (.slice G4 Pr.length q4)).setCell ⟨w.heap.size+1+1,8,none⟩ (.slice G5 ppr.length q5)).setCell ⟨w.heap.size+1+1,9,none⟩ (.int .i64 mr)):=⟨_,rfl⟩
     have hBX1:Boxy w4 wD:=by rw [heD];exact boxy
     have hBW1:Below w.heap.size w wD:=by rw [heD];exact bel
     have hsE1:wD.heap.size=w4.heap.size:=by rw [heD];simp [World.setCell]
     rw [← heD]
     clear heD
     have hBX:Boxy w4 (wD.alloc (.cells #[.int .i64 d1r,.int .i64 f1r,.slice G1 ss1r.length q1,.int .i64 d2r,.int .i64 f2r,.slice G2 ss2r.length q2,.slice G3 str.length q3,.slice G4 Pr.length q4,.slice G5 ppr.length q5,.int .i64 mr] 33)):=hBX1.alloc _
     have hBW:Below w.heap.size w (wD.alloc (.cells #[.int .i64 d1r,.int .i64 f1r,.slice G1 ss1r.length q1,.int .i64 d2r,.int .i64 f2r,.slice G2 ss2r.length q2,.slice G3 str.length q3,.slice G4 Pr.length q4,.slice G5 ppr.length q5,.int .i64 mr] 33)):=hBW1.alloc (by omega) _
     have hsE:w4.heap.size≤(wD.alloc (.cells #[.int .i64 d1r,.int .i64 f1r,.slice G1 ss1r.length q1,.int .i64 d2r,.int .i64 f2r,.slice G2 ss2r.length q2,.slice G3 str.length q3,.slice G4 Pr.length q4,.slice G5 ppr.length q5,.int .i64 mr] 33)).heap.size:=(by first|omega|(simp;omega))
     generalize (wD.alloc (.cells #[.int .i64 d1r,.int .i64 f1r,.slice G1 ss1r.length q1,.int .i64 d2r,.int .i64 f2r,.slice G2 ss2r.length q2,.slice G3 str.length q3,.slice G4 Pr.length q4,.slice G5 ppr.length q5,.int .i64 mr] 33))=wE at *
     have hOW:OwnW wE w.heap.size wE.heap.size G1 q1 G2 q2 G3 q3 G4 q4 G5 q5 (PDraft.mk d1r f1r ss1r d2r f2r ss2r str) Pr ppr:=(o_n.boxy hBX).wide (by omega) (by omega)
     exact uwi_cast HR4.out ⟨G1,q1,G2,q2,G3,q3,G4,q4,G5,q5,rfl,hOW,hBW⟩
    case false =>
     have HR4:=Lib.hid (hn rfl)
     clear hy hn
     go_enter Tryz.func42,Tryz.ntmps42
     go_wp2_with fail
     generalize e_:(World.alloc _ _)=w1
     symm at e_
     have k_a:=hkc e_ (blk_alloc (blk_alloc (bnk w.heap.size) _) _)
     have k_act:=hkc e_ (blk_alloc (bnk (w.heap.size+1)) _)
     have k_r:=hkc e_ (bnk (w.heap.size+1+1))
     have hX_:Boxy w w1:=by rw [e_];exact boxy
     have hb_:Below w.heap.size w w1:=by rw [e_];exact bel
     have c_w1:=hX_.size
     clear e_ hX_
     refine (i_WorkshopOk d1 f1 ss1 d2 f2 ss2 st P pp m B A1 A2 A3 A4 A5 c1 c2 c3 c4 c5 w1 (hS.below (hb_.mono hB)) (Nat.le_trans hB hb_.size)).mono ?_
     rw [HW1.out]
     rintro e w2 ⟨rfl,b_⟩
     replace k_a:=blk_next k_a b_
     replace k_act:=blk_next k_act b_
     replace k_r:=blk_next k_r b_
     have c_w2:=b_.size
     replace hb_:=hb_.trans (b_.mono hb_.size)
     clear b_
     obtain ⟨x0act,x1act,x2act,xlact⟩:=blk3 k_act
     go_wp2_with fail
     clear x0act x1act x2act xlact
     refine (i_ActOk k a b w2).mono ?_
     rw [HAC.out]
     rintro e w3 ⟨rfl,b_⟩
     replace k_a:=blk_next k_a b_
     replace k_act:=blk_next k_act b_
     replace k_r:=blk_next k_r b_
     have c_w3:=b_.size
     replace hb_:=hb_.trans (b_.mono hb_.size)
     clear b_
     obtain ⟨x0a,x1a,x2a,x3a,x4a,x5a,x6a,x7a,x8a,x9a,xla⟩:=blk10 k_a
     obtain ⟨x0act,x1act,x2act,xlact⟩:=blk3 k_act
     go_wp2_with fail
     clear x0a x1a x2a x3a x4a x5a x6a x7a x8a x9a xla x0act x1act x2act xlact
     refine (unhide HCALL _ (hS.below (hb_.mono hB)) (Nat.le_trans hB hb_.size)).mono ?_
     rintro e w4 ⟨G1,q1,G2,q2,G3,q3,G4,q4,G5,q5,rfl,hon,b_⟩
     replace k_a:=blk_next k_a b_
     replace k_act:=blk_next k_act b_
     replace k_r:=blk_next k_r b_
     have c_w4:=b_.size
     replace hb_:=hb_.trans (b_.mono hb_.size)
     clear b_
     have o_n:=hon
     clear hon
     obtain ⟨⟨x0r,x1r,x2r,x3r,x4r,x5r,x6r,x7r,x8r,x9r,xlr⟩,z0r,z1r,z2r,z3r,z4r,z5r,z6r,z7r,z8r,z9r⟩:=ba10 k_r
     go_wp2
     have qaa:=boxAt_of k_r
     refine bodyPost_ret (v:=.tuple #[.agg #[.int .i64 d1r,.int .i64 f1r,.slice G1 ss1r.length q1,.int .i64 d2r,.int .i64 f2r,.slice G2 ss2r.length q2,.slice G3 str.length q3,.slice G4 Pr.length q4,.slice G5 ppr.length q5,.int .i64 mr],.int .i64 0]) (by simp [results,Tryz.results42,go_sem, *]) rfl ?_
     clear x0r x1r x2r x3r x4r x5r x6r x7r x8r x9r xlr z0r z1r z2r z3r z4r z5r z6r z7r z8r z9r
     obtain ⟨wD,heD⟩:∃ x,x=((((((((((w4.setCell ⟨w.heap.size+1+1,0,none⟩ (.int .i64 d1r)).setCell ⟨w.heap.size+1+1,1,none⟩ (.int .i64 f1r)).setCell ⟨w.heap.size+1+1,2,none⟩ (.slice G1 ss1r.length q1)).setCell ⟨w.heap.size+1+1,3,none⟩ (.int .i64 d2r)).setCell ⟨w.heap.size+1+1,4,none⟩ (.int .i64 f2r)).setCell ⟨w.heap.size+1+1,5,none⟩ (.slice G2 ss2r.length q2)).setCell ⟨w.heap.size+1+1,6,none⟩ (.slice G3 str.length q3)).setCell ⟨w.heap.size+1+1,7,none⟩ (.slice G4 Pr.length q4)).setCell ⟨w.heap.size+1+1,8,none⟩ (.slice G5 ppr.length q5)).setCell ⟨w.heap.size+1+1,9,none⟩ (.int .i64 mr)):=⟨_,rfl⟩
     have hBX1:Boxy w4 wD:=by rw [heD];exact boxy
     have hBW1:Below w.heap.size w wD:=by rw [heD];exact bel
     have hsE1:wD.heap.size=w4.heap.size:=by rw [heD];simp [World.setCell]
     rw [← heD]
     clear heD
     have hBX:Boxy w4 (wD.alloc (.cells #[.int .i64 d1r,.int .i64 f1r,.slice G1 ss1r.length q1,.int .i64 d2r,.int .i64 f2r,.slice G2 ss2r.length q2,.slice G3 str.length q3,.slice G4 Pr.length q4,.slice G5 ppr.length q5,.int .i64 mr] 33)):=hBX1.alloc _
     have hBW:Below w.heap.size w (wD.alloc (.cells #[.int .i64 d1r,.int .i64 f1r,.slice G1 ss1r.length q1,.int .i64 d2r,.int .i64 f2r,.slice G2 ss2r.length q2,.slice G3 str.length q3,.slice G4 Pr.length q4,.slice G5 ppr.length q5,.int .i64 mr] 33)):=hBW1.alloc (by omega) _
     have hsE:w4.heap.size≤(wD.alloc (.cells #[.int .i64 d1r,.int .i64 f1r,.slice G1 ss1r.length q1,.int .i64 d2r,.int .i64 f2r,.slice G2 ss2r.length q2,.slice G3 str.length q3,.slice G4 Pr.length q4,.slice G5 ppr.length q5,.int .i64 mr] 33)).heap.size:=(by first|omega|(simp;omega))
     generalize (wD.alloc (.cells #[.int .i64 d1r,.int .i64 f1r,.slice G1 ss1r.length q1,.int .i64 d2r,.int .i64 f2r,.slice G2 ss2r.length q2,.slice G3 str.length q3,.slice G4 Pr.length q4,.slice G5 ppr.length q5,.int .i64 mr] 33))=wE at *
     have hOW:OwnW wE w.heap.size wE.heap.size G1 q1 G2 q2 G3 q3 G4 q4 G5 q5 (PDraft.mk d1r f1r ss1r d2r f2r ss2r str) Pr ppr:=(o_n.boxy hBX).wide (by omega) (by omega)
     exact uwi_cast HR4.out ⟨G1,q1,G2,q2,G3,q3,G4,q4,G5,q5,rfl,hOW,hBW⟩
end Go.Proofs.YtlimlolciekimaaGreatDoor
