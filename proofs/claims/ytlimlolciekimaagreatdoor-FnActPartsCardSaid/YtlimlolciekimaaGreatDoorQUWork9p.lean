/- The contract of perform of the program. -/
import Derived.Deep.RegionHeld3
import Derived.Test.YtlimlolciekimaaGreatDoorRows
import Derived.Test.YtlimlolciekimaaGreatDoorQUo
import Derived.Test.YtlimlolciekimaaGreatDoorQUWork5Shapei
import Derived.Test.YtlimlolciekimaaGreatDoorQUWork5Unshapei
import Derived.Test.YtlimlolciekimaaGreatDoorQUWork5KeepCardi
import Derived.Test.YtlimlolciekimaaGreatDoorQUWork5ForgetCardi
import Derived.Test.YtlimlolciekimaaGreatDoorQUWork7MakeCopiesi
import Derived.Test.YtlimlolciekimaaGreatDoorQUWork7BuyPaperi
namespace Go.Proofs.YtlimlolciekimaaGreatDoor
set_option maxHeartbeats 1600000
open Go.ChangeShapes Go.WideShapes Go.ChangeAt Go.RowKit
set_option linter.unusedVariables false
set_option linter.unusedSimpArgs false
set_option maxRecDepth 10000
theorem i_perform (d1 f1:Int) (ss1:List ByteArray) (d2 f2:Int) (ss2:List ByteArray) (st:List PStep) (P:List PItem) (pp:List PPaper) (m:Int) (k a b:Int) (B:Nat) (A1 A2 A3 A4 A5:Option Addr) (c1 c2 c3 c4 c5:Nat) (w:World) (hS:RdWork w B A1 A2 A3 A4 c4 A5 ⟨d1,f1,ss1,d2,f2,ss2,st⟩ P pp) (hB:B≤w.heap.size) (hok:OkWork (PDraft.mk d1 f1 ss1 d2 f2 ss2 st) P pp 1048576) (hact:actOk k a b=true) (hk8:¬k=8) :
  Calls Tryz.prog 88 #[.agg #[.int .i64 d1,.int .i64 f1,.slice A1 ss1.length c1,.int .i64 d2,.int .i64 f2,.slice A2 ss2.length c2,.slice A3 st.length c3,.slice A4 P.length c4,.slice A5 pp.length c5,.int .i64 m],.agg #[.int .i64 k,.int .i64 a,.int .i64 b]] w (UWorkB (perf (PWork.mk (PDraft.mk d1 f1 ss1 d2 f2 ss2 st) P pp m) k a b).1.D.d1 (perf (PWork.mk (PDraft.mk d1 f1 ss1 d2 f2 ss2 st) P pp m) k a b).1.D.f1 (perf (PWork.mk (PDraft.mk d1 f1 ss1 d2 f2 ss2 st) P pp m) k a b).1.D.ss1 (perf (PWork.mk (PDraft.mk d1 f1 ss1 d2 f2 ss2 st) P pp m) k a b).1.D.d2 (perf (PWork.mk (PDraft.mk d1 f1 ss1 d2 f2 ss2 st) P pp m) k a b).1.D.f2 (perf (PWork.mk (PDraft.mk d1 f1 ss1 d2 f2 ss2 st) P pp m) k a b).1.D.ss2 (perf (PWork.mk (PDraft.mk d1 f1 ss1 d2 f2 ss2 st) P pp m) k a b).1.D.st (perf (PWork.mk (PDraft.mk d1 f1 ss1 d2 f2 ss2 st) P pp m) k a b).1.P (perf (PWork.mk (PDraft.mk d1 f1 ss1 d2 f2 ss2 st) P pp m) k a b).1.pp (perf (PWork.mk (PDraft.mk d1 f1 ss1 d2 f2 ss2 st) P pp m) k a b).1.m (perf (PWork.mk (PDraft.mk d1 f1 ss1 d2 f2 ss2 st) P pp m) k a b).2 w):=by
 have hk:=act_kinds hact
 obtain ⟨ha0,ha9⟩:=act_a hact
 clear hact
 rcases hk with rfl|rfl|rfl|rfl|rfl|rfl|rfl|rfl
 ·have hcall:=fun (W:World) (hW1:RdWork W B A1 A2 A3 A4 c4 A5 (PDraft.mk d1 f1 ss1 d2 f2 ss2 st) P pp) (hW2:B≤W.heap.size)=>i_Shape d1 f1 ss1 d2 f2 ss2 st P pp m 1 a a b 0 ByteArray.empty ByteArray.empty B A1 A2 A3 A4 A5 c1 c2 c3 c4 c5 W hW1 hW2 hok (by decide) (by decide)
  rw [perf_1]
  generalize shapeRes (PWork.mk (PDraft.mk d1 f1 ss1 d2 f2 ss2 st) P pp m) (PStep.mk 1 a a b 0 ByteArray.empty ByteArray.empty)=R at *
  obtain ⟨⟨⟨d1r,f1r,ss1r,d2r,f2r,ss2r,str⟩,Pr,ppr,mr⟩,rb⟩:=R
  simp only at hcall ⊢
  have HCALL:=hide hcall
  clear hcall hok hk8
  go_enter Tryz.func88,Tryz.ntmps88
  go_wp2_with fail
  generalize e_:(World.alloc _ _)=w1
  symm at e_
  have k_a:=hkc e_ (blk_alloc (blk_alloc (blk_alloc (bnk w.heap.size) _) _) _)
  have k_act:=hkc e_ (blk_alloc (blk_alloc (bnk (w.heap.size+1)) _) _)
  have k_r:=hkc e_ (blk_alloc (bnk (w.heap.size+1+1)) _)
  have k_bx:=hkc e_ (bnk (w.heap.size+1+1+1))
  have hX_:Boxy w w1:=by rw [e_];exact boxy
  have hb_:Below w.heap.size w w1:=by rw [e_];exact bel
  have c_w1:=hX_.size
  clear e_ hX_
  refine (unhide HCALL _ (hS.below (hb_.mono hB)) (Nat.le_trans hB hb_.size)).mono ?_
  rintro e w2 ⟨G1,q1,G2,q2,G3,q3,G4,q4,G5,q5,rfl,hon,b_⟩
  replace k_a:=blk_next k_a b_
  replace k_act:=blk_next k_act b_
  replace k_r:=blk_next k_r b_
  replace k_bx:=blk_next k_bx b_
  have c_w2:=b_.size
  replace hb_:=hb_.trans (b_.mono hb_.size)
  clear b_
  have o_n:=hon
  clear hon
  obtain ⟨⟨x0r,x1r,x2r,x3r,x4r,x5r,x6r,x7r,x8r,x9r,xlr⟩,z0r,z1r,z2r,z3r,z4r,z5r,z6r,z7r,z8r,z9r⟩:=ba10 k_r
  go_wp2
  refine bodyPost_ret (v:=.tuple #[.agg #[.int .i64 d1r,.int .i64 f1r,.slice G1 ss1r.length q1,.int .i64 d2r,.int .i64 f2r,.slice G2 ss2r.length q2,.slice G3 str.length q3,.slice G4 Pr.length q4,.slice G5 ppr.length q5,.int .i64 mr],.bool rb]) (by simp [results,Tryz.results88,go_sem, *]) rfl ?_
  clear x0r x1r x2r x3r x4r x5r x6r x7r x8r x9r xlr z0r z1r z2r z3r z4r z5r z6r z7r z8r z9r
  have o9_:OwnW w2 w.heap.size w2.heap.size G1 q1 G2 q2 G3 q3 G4 q4 G5 q5 (PDraft.mk d1r f1r ss1r d2r f2r ss2r str) Pr ppr:=o_n.wide (by omega) (by omega)
  exact ⟨G1,q1,G2,q2,G3,q3,G4,q4,G5,q5,rfl,endw k_r o9_ hb_ (by omega)⟩
 ·have hcall:=fun (W:World) (hW1:RdWork W B A1 A2 A3 A4 c4 A5 (PDraft.mk d1 f1 ss1 d2 f2 ss2 st) P pp) (hW2:B≤W.heap.size)=>i_Shape d1 f1 ss1 d2 f2 ss2 st P pp m 2 a a b 0 ByteArray.empty ByteArray.empty B A1 A2 A3 A4 A5 c1 c2 c3 c4 c5 W hW1 hW2 hok (by decide) (by decide)
  rw [perf_2]
  generalize shapeRes (PWork.mk (PDraft.mk d1 f1 ss1 d2 f2 ss2 st) P pp m) (PStep.mk 2 a a b 0 ByteArray.empty ByteArray.empty)=R at *
  obtain ⟨⟨⟨d1r,f1r,ss1r,d2r,f2r,ss2r,str⟩,Pr,ppr,mr⟩,rb⟩:=R
  simp only at hcall ⊢
  have HCALL:=hide hcall
  clear hcall hok hk8
  go_enter Tryz.func88,Tryz.ntmps88
  go_wp2_with fail
  generalize e_:(World.alloc _ _)=w1
  symm at e_
  have k_a:=hkc e_ (blk_alloc (blk_alloc (blk_alloc (bnk w.heap.size) _) _) _)
  have k_act:=hkc e_ (blk_alloc (blk_alloc (bnk (w.heap.size+1)) _) _)
  have k_r:=hkc e_ (blk_alloc (bnk (w.heap.size+1+1)) _)
  have k_bx:=hkc e_ (bnk (w.heap.size+1+1+1))
  have hX_:Boxy w w1:=by rw [e_];exact boxy
  have hb_:Below w.heap.size w w1:=by rw [e_];exact bel
  have c_w1:=hX_.size
  clear e_ hX_
  refine (unhide HCALL _ (hS.below (hb_.mono hB)) (Nat.le_trans hB hb_.size)).mono ?_
  rintro e w2 ⟨G1,q1,G2,q2,G3,q3,G4,q4,G5,q5,rfl,hon,b_⟩
  replace k_a:=blk_next k_a b_
  replace k_act:=blk_next k_act b_
  replace k_r:=blk_next k_r b_
  replace k_bx:=blk_next k_bx b_
  have c_w2:=b_.size
  replace hb_:=hb_.trans (b_.mono hb_.size)
  clear b_
  have o_n:=hon
  clear hon
  obtain ⟨⟨x0r,x1r,x2r,x3r,x4r,x5r,x6r,x7r,x8r,x9r,xlr⟩,z0r,z1r,z2r,z3r,z4r,z5r,z6r,z7r,z8r,z9r⟩:=ba10 k_r
  go_wp2
  refine bodyPost_ret (v:=.tuple #[.agg #[.int .i64 d1r,.int .i64 f1r,.slice G1 ss1r.length q1,.int .i64 d2r,.int .i64 f2r,.slice G2 ss2r.length q2,.slice G3 str.length q3,.slice G4 Pr.length q4,.slice G5 ppr.length q5,.int .i64 mr],.bool rb]) (by simp [results,Tryz.results88,go_sem, *]) rfl ?_
  clear x0r x1r x2r x3r x4r x5r x6r x7r x8r x9r xlr z0r z1r z2r z3r z4r z5r z6r z7r z8r z9r
  have o9_:OwnW w2 w.heap.size w2.heap.size G1 q1 G2 q2 G3 q3 G4 q4 G5 q5 (PDraft.mk d1r f1r ss1r d2r f2r ss2r str) Pr ppr:=o_n.wide (by omega) (by omega)
  exact ⟨G1,q1,G2,q2,G3,q3,G4,q4,G5,q5,rfl,endw k_r o9_ hb_ (by omega)⟩
 ·have hcall:=fun (W:World) (hW1:RdWork W B A1 A2 A3 A4 c4 A5 (PDraft.mk d1 f1 ss1 d2 f2 ss2 st) P pp) (hW2:B≤W.heap.size)=>i_Unshape d1 f1 ss1 d2 f2 ss2 st P pp m B A1 A2 A3 A4 A5 c1 c2 c3 c4 c5 W hW1 hW2 hok
  rw [perf_3]
  generalize unshapeRes (PWork.mk (PDraft.mk d1 f1 ss1 d2 f2 ss2 st) P pp m)=R at *
  obtain ⟨⟨⟨d1r,f1r,ss1r,d2r,f2r,ss2r,str⟩,Pr,ppr,mr⟩,rb⟩:=R
  simp only at hcall ⊢
  have HCALL:=hide hcall
  clear hcall hok hk8
  go_enter Tryz.func88,Tryz.ntmps88
  go_wp2_with fail
  generalize e_:(World.alloc _ _)=w1
  symm at e_
  have k_a:=hkc e_ (blk_alloc (blk_alloc (blk_alloc (bnk w.heap.size) _) _) _)
  have k_act:=hkc e_ (blk_alloc (blk_alloc (bnk (w.heap.size+1)) _) _)
  have k_r:=hkc e_ (blk_alloc (bnk (w.heap.size+1+1)) _)
  have k_bx:=hkc e_ (bnk (w.heap.size+1+1+1))
  have hX_:Boxy w w1:=by rw [e_];exact boxy
  have hb_:Below w.heap.size w w1:=by rw [e_];exact bel
  have c_w1:=hX_.size
  clear e_ hX_
  refine (unhide HCALL _ (hS.below (hb_.mono hB)) (Nat.le_trans hB hb_.size)).mono ?_
  rintro e w2 ⟨G1,q1,G2,q2,G3,q3,G4,q4,G5,q5,rfl,hon,b_⟩
  replace k_a:=blk_next k_a b_
  replace k_act:=blk_next k_act b_
  replace k_r:=blk_next k_r b_
  replace k_bx:=blk_next k_bx b_
  have c_w2:=b_.size
  replace hb_:=hb_.trans (b_.mono hb_.size)
  clear b_
  have o_n:=hon
  clear hon
  obtain ⟨⟨x0r,x1r,x2r,x3r,x4r,x5r,x6r,x7r,x8r,x9r,xlr⟩,z0r,z1r,z2r,z3r,z4r,z5r,z6r,z7r,z8r,z9r⟩:=ba10 k_r
  go_wp2
  refine bodyPost_ret (v:=.tuple #[.agg #[.int .i64 d1r,.int .i64 f1r,.slice G1 ss1r.length q1,.int .i64 d2r,.int .i64 f2r,.slice G2 ss2r.length q2,.slice G3 str.length q3,.slice G4 Pr.length q4,.slice G5 ppr.length q5,.int .i64 mr],.bool rb]) (by simp [results,Tryz.results88,go_sem, *]) rfl ?_
  clear x0r x1r x2r x3r x4r x5r x6r x7r x8r x9r xlr z0r z1r z2r z3r z4r z5r z6r z7r z8r z9r
  have o9_:OwnW w2 w.heap.size w2.heap.size G1 q1 G2 q2 G3 q3 G4 q4 G5 q5 (PDraft.mk d1r f1r ss1r d2r f2r ss2r str) Pr ppr:=o_n.wide (by omega) (by omega)
  exact ⟨G1,q1,G2,q2,G3,q3,G4,q4,G5,q5,rfl,endw k_r o9_ hb_ (by omega)⟩
 ·have hcall:=fun (W:World) (hW1:RdWork W B A1 A2 A3 A4 c4 A5 (PDraft.mk d1 f1 ss1 d2 f2 ss2 st) P pp) (hW2:B≤W.heap.size)=>i_BuyPaper d1 f1 ss1 d2 f2 ss2 st P pp m a b B A1 A2 A3 A4 A5 c1 c2 c3 c4 c5 W hW1 hW2 hok
  rw [perf_4]
  generalize buyRes (PWork.mk (PDraft.mk d1 f1 ss1 d2 f2 ss2 st) P pp m) a b=R at *
  obtain ⟨⟨⟨d1r,f1r,ss1r,d2r,f2r,ss2r,str⟩,Pr,ppr,mr⟩,rb⟩:=R
  simp only at hcall ⊢
  have HCALL:=hide hcall
  clear hcall hok hk8
  go_enter Tryz.func88,Tryz.ntmps88
  go_wp2_with fail
  generalize e_:(World.alloc _ _)=w1
  symm at e_
  have k_a:=hkc e_ (blk_alloc (blk_alloc (blk_alloc (bnk w.heap.size) _) _) _)
  have k_act:=hkc e_ (blk_alloc (blk_alloc (bnk (w.heap.size+1)) _) _)
  have k_r:=hkc e_ (blk_alloc (bnk (w.heap.size+1+1)) _)
  have k_bx:=hkc e_ (bnk (w.heap.size+1+1+1))
  have hX_:Boxy w w1:=by rw [e_];exact boxy
  have hb_:Below w.heap.size w w1:=by rw [e_];exact bel
  have c_w1:=hX_.size
  clear e_ hX_
  refine (unhide HCALL _ (hS.below (hb_.mono hB)) (Nat.le_trans hB hb_.size)).mono ?_
  rintro e w2 ⟨G1,q1,G2,q2,G3,q3,G4,q4,G5,q5,rfl,hon,b_⟩
  replace k_a:=blk_next k_a b_
  replace k_act:=blk_next k_act b_
  replace k_r:=blk_next k_r b_
  replace k_bx:=blk_next k_bx b_
  have c_w2:=b_.size
  replace hb_:=hb_.trans (b_.mono hb_.size)
  clear b_
  have o_n:=hon
  clear hon
  obtain ⟨⟨x0r,x1r,x2r,x3r,x4r,x5r,x6r,x7r,x8r,x9r,xlr⟩,z0r,z1r,z2r,z3r,z4r,z5r,z6r,z7r,z8r,z9r⟩:=ba10 k_r
  go_wp2
  refine bodyPost_ret (v:=.tuple #[.agg #[.int .i64 d1r,.int .i64 f1r,.slice G1 ss1r.length q1,.int .i64 d2r,.int .i64 f2r,.slice G2 ss2r.length q2,.slice G3 str.length q3,.slice G4 Pr.length q4,.slice G5 ppr.length q5,.int .i64 mr],.bool rb]) (by simp [results,Tryz.results88,go_sem, *]) rfl ?_
  clear x0r x1r x2r x3r x4r x5r x6r x7r x8r x9r xlr z0r z1r z2r z3r z4r z5r z6r z7r z8r z9r
  have o9_:OwnW w2 w.heap.size w2.heap.size G1 q1 G2 q2 G3 q3 G4 q4 G5 q5 (PDraft.mk d1r f1r ss1r d2r f2r ss2r str) Pr ppr:=o_n.wide (by omega) (by omega)
  exact ⟨G1,q1,G2,q2,G3,q3,G4,q4,G5,q5,rfl,endw k_r o9_ hb_ (by omega)⟩
 ·obtain ⟨nma,hnme⟩:∃ x,nameOf a=x:=⟨_,rfl⟩
  have hnma:nma.size≤16777216:=by rw [← hnme];have:=nameOf_size a;omega
  have hcall:=fun (W:World) (hW1:RdWork W B A1 A2 A3 A4 c4 A5 (PDraft.mk d1 f1 ss1 d2 f2 ss2 st) P pp) (hW2:B≤W.heap.size)=>i_KeepCard d1 f1 ss1 d2 f2 ss2 st P pp m nma B A1 A2 A3 A4 A5 c1 c2 c3 c4 c5 W hW1 hW2 hok hnma
  rw [perf_5]
  rw [hnme]
  generalize keepRes (PWork.mk (PDraft.mk d1 f1 ss1 d2 f2 ss2 st) P pp m) nma=R at *
  obtain ⟨⟨⟨d1r,f1r,ss1r,d2r,f2r,ss2r,str⟩,Pr,ppr,mr⟩,rb⟩:=R
  simp only at hcall ⊢
  have HCALL:=hide hcall
  clear hcall hok hk8
  go_enter Tryz.func88,Tryz.ntmps88
  go_wp2
  generalize e_:(World.alloc _ _)=w1
  symm at e_
  have k_a:=hkc e_ (blk_alloc (blk_alloc (blk_alloc (bnk w.heap.size) _) _) _)
  have k_act:=hkc e_ (blk_alloc (blk_alloc (bnk (w.heap.size+1)) _) _)
  have k_r:=hkc e_ (blk_alloc (bnk (w.heap.size+1+1)) _)
  have k_bx:=hkc e_ (bnk (w.heap.size+1+1+1))
  have hX_:Boxy w w1:=by rw [e_];exact boxy
  have hb_:Below w.heap.size w w1:=by rw [e_];exact bel
  have c_w1:=hX_.size
  clear e_ hX_
  obtain ⟨x0a,x1a,x2a,x3a,x4a,x5a,x6a,x7a,x8a,x9a,xla⟩:=blk10 k_a
  obtain ⟨x0act,x1act,x2act,xlact⟩:=blk3 k_act
  have hsB:=hb_.size
  have hSq:=hS.below (hb_.mono hB)
  have hB2:B≤w.heap.size+1+1:=by omega
  have hB3:B≤w1.heap.size:=by omega
  have hz2q:w.heap.size+1+1≤w1.heap.size:=by have h9:=blk_lt k_r;omega
  go_region_held3 (fun W=>(∀ b o,b<w.heap.size+1+1→W.cell? ⟨b,o,none⟩=(w1).cell? ⟨b,o,none⟩)∧(∀ b o,b<w.heap.size+1+1→W.frozen? ⟨b,o,none⟩=(w1).frozen? ⟨b,o,none⟩)∧Below (w.heap.size+1+1) (w1) W) (exact keep_of bel) (first|(go_at_call 30;have hq:=(‹_∧_∧Below _ _ _›).2.2;refine (i_NameFor a _ ha0 ha9).mono ?_;rw [hnme];rintro e w3 ⟨rfl,hb3⟩;have hqs3:=hq.size;have hbs3:=hb3.size;(try simp at hqs3);(try simp at hbs3);(have hb3X:Below w1.heap.size w1 w3:=(by first|exact hb3|exact ⟨hb3.os,hb3.tape,hb3.output,hb3.size,hb3.block⟩)))|(go_at_call 142;have hq:=(‹_∧_∧Below _ _ _›).2.2;refine (unhide HCALL _ (hSq.below (hq.mono hB2)) (Nat.le_trans hB3 hq.size)).mono ?_;rintro e w4 ⟨G1,q1,G2,q2,G3,q3,G4,q4,G5,q5,rfl,ho4,hb4⟩;(have ho4X:=ho4.wide (lo':=w.heap.size) (Nat.le_trans hsB hq.size) (Nat.le_refl _));have hqs4:=hq.size;have hbs4:=hb4.size;(try simp at hqs4);(try simp at hbs4);(have hb4X:Below w3.heap.size w3 w4:=(by first|exact hb4|exact ⟨hb4.os,hb4.tape,hb4.output,hb4.size,hb4.block⟩));(have hkz_a:=blk_next (blk_next k_a hb3X) hb4X);(have hkz_act:=blk_next (blk_next k_act hb3X) hb4X);(have hkz_r:=blk_next (blk_next k_r hb3X) hb4X);(have hkz_bx:=blk_next (blk_next k_bx hb3X) hb4X);obtain ⟨hv0,hv1,hv2,hv3,hv4,hv5,hv6,hv7,hv8,hv9,hvl⟩:=blk10 hkz_r;obtain ⟨⟨hf0,hf1,hf2,hf3,hf4⟩,hf5,hf6,hf7,hf8,hf9⟩:=blk10f hkz_r))
  all_goals (
   go_wp2
   have hbw4:Below w.heap.size w w4:=hb_.trans ((hb3X.mono hsB).trans (hb4X.mono (Nat.le_trans hsB hb3X.size)))
   have hs34:=Nat.le_trans hb3X.size hb4X.size
   refine bodyPost_ret (v:=.tuple #[.agg #[.int .i64 d1r,.int .i64 f1r,.slice G1 ss1r.length q1,.int .i64 d2r,.int .i64 f2r,.slice G2 ss2r.length q2,.slice G3 str.length q3,.slice G4 Pr.length q4,.slice G5 ppr.length q5,.int .i64 mr],.bool rb]) (by simp [results,Tryz.results88,go_sem, *]) rfl ?_
   have qaa:=boxAt_of hkz_r
   clear hb3 hb4 hb3X hb4X
   obtain ⟨wE,heE⟩:∃ x,x=((((((((((w4.setCell ⟨w.heap.size+1+1,0,none⟩ (.int .i64 d1r)).setCell ⟨w.heap.size+1+1,1,none⟩ (.int .i64 f1r)).setCell ⟨w.heap.size+1+1,2,none⟩ (.slice G1 ss1r.length q1)).setCell ⟨w.heap.size+1+1,3,none⟩ (.int .i64 d2r)).setCell ⟨w.heap.size+1+1,4,none⟩ (.int .i64 f2r)).setCell ⟨w.heap.size+1+1,5,none⟩ (.slice G2 ss2r.length q2)).setCell ⟨w.heap.size+1+1,6,none⟩ (.slice G3 str.length q3)).setCell ⟨w.heap.size+1+1,7,none⟩ (.slice G4 Pr.length q4)).setCell ⟨w.heap.size+1+1,8,none⟩ (.slice G5 ppr.length q5)).setCell ⟨w.heap.size+1+1,9,none⟩ (.int .i64 mr)):=⟨_,rfl⟩
   have hBX:Boxy w4 wE:=by rw [heE];exact boxy
   have hBW:Below w.heap.size w wE:=by rw [heE];exact bel
   have hsE:wE.heap.size=w4.heap.size:=by rw [heE];simp [World.setCell]
   rw [← heE]
   have hOW:OwnW wE w.heap.size wE.heap.size G1 q1 G2 q2 G3 q3 G4 q4 G5 q5 (PDraft.mk d1r f1r ss1r d2r f2r ss2r str) Pr ppr:=(ho4X.boxy hBX).wide (by omega) (by omega)
   exact ⟨G1,q1,G2,q2,G3,q3,G4,q4,G5,q5,rfl,hOW,hBW⟩)
 ·obtain ⟨nma,hnme⟩:∃ x,nameOf a=x:=⟨_,rfl⟩
  have hnma:nma.size≤16777216:=by rw [← hnme];have:=nameOf_size a;omega
  have hcall:=fun (W:World) (hW1:RdWork W B A1 A2 A3 A4 c4 A5 (PDraft.mk d1 f1 ss1 d2 f2 ss2 st) P pp) (hW2:B≤W.heap.size)=>i_MakeCopies d1 f1 ss1 d2 f2 ss2 st P pp m nma a b B A1 A2 A3 A4 A5 c1 c2 c3 c4 c5 W hW1 hW2 hok
  rw [perf_6]
  rw [hnme]
  generalize makeRes (PWork.mk (PDraft.mk d1 f1 ss1 d2 f2 ss2 st) P pp m) nma a b=R at *
  obtain ⟨⟨⟨d1r,f1r,ss1r,d2r,f2r,ss2r,str⟩,Pr,ppr,mr⟩,rb⟩:=R
  simp only at hcall ⊢
  have HCALL:=hide hcall
  clear hcall hok hk8
  go_enter Tryz.func88,Tryz.ntmps88
  go_wp2
  generalize e_:(World.alloc _ _)=w1
  symm at e_
  have k_a:=hkc e_ (blk_alloc (blk_alloc (blk_alloc (bnk w.heap.size) _) _) _)
  have k_act:=hkc e_ (blk_alloc (blk_alloc (bnk (w.heap.size+1)) _) _)
  have k_r:=hkc e_ (blk_alloc (bnk (w.heap.size+1+1)) _)
  have k_bx:=hkc e_ (bnk (w.heap.size+1+1+1))
  have hX_:Boxy w w1:=by rw [e_];exact boxy
  have hb_:Below w.heap.size w w1:=by rw [e_];exact bel
  have c_w1:=hX_.size
  clear e_ hX_
  obtain ⟨x0a,x1a,x2a,x3a,x4a,x5a,x6a,x7a,x8a,x9a,xla⟩:=blk10 k_a
  obtain ⟨x0act,x1act,x2act,xlact⟩:=blk3 k_act
  have hsB:=hb_.size
  have hSq:=hS.below (hb_.mono hB)
  have hB2:B≤w.heap.size+1+1:=by omega
  have hB3:B≤w1.heap.size:=by omega
  have hz2q:w.heap.size+1+1≤w1.heap.size:=by have h9:=blk_lt k_r;omega
  go_region_held3 (fun W=>(∀ b o,b<w.heap.size+1+1→W.cell? ⟨b,o,none⟩=(w1).cell? ⟨b,o,none⟩)∧(∀ b o,b<w.heap.size+1+1→W.frozen? ⟨b,o,none⟩=(w1).frozen? ⟨b,o,none⟩)∧Below (w.heap.size+1+1) (w1) W) (exact keep_of bel) (first|(go_at_call 30;have hq:=(‹_∧_∧Below _ _ _›).2.2;refine (i_NameFor a _ ha0 ha9).mono ?_;rw [hnme];rintro e w3 ⟨rfl,hb3⟩;have hqs3:=hq.size;have hbs3:=hb3.size;(try simp at hqs3);(try simp at hbs3);(have hb3X:Below w1.heap.size w1 w3:=(by first|exact hb3|exact ⟨hb3.os,hb3.tape,hb3.output,hb3.size,hb3.block⟩)))|(go_at_call 143;have hq:=(‹_∧_∧Below _ _ _›).2.2;refine (unhide HCALL _ (hSq.below (hq.mono hB2)) (Nat.le_trans hB3 hq.size)).mono ?_;rintro e w4 ⟨G1,q1,G2,q2,G3,q3,G4,q4,G5,q5,rfl,ho4,hb4⟩;(have ho4X:=ho4.wide (lo':=w.heap.size) (Nat.le_trans hsB hq.size) (Nat.le_refl _));have hqs4:=hq.size;have hbs4:=hb4.size;(try simp at hqs4);(try simp at hbs4);(have hb4X:Below w3.heap.size w3 w4:=(by first|exact hb4|exact ⟨hb4.os,hb4.tape,hb4.output,hb4.size,hb4.block⟩));(have hkz_a:=blk_next (blk_next k_a hb3X) hb4X);(have hkz_act:=blk_next (blk_next k_act hb3X) hb4X);(have hkz_r:=blk_next (blk_next k_r hb3X) hb4X);(have hkz_bx:=blk_next (blk_next k_bx hb3X) hb4X);obtain ⟨hv0,hv1,hv2,hv3,hv4,hv5,hv6,hv7,hv8,hv9,hvl⟩:=blk10 hkz_r;obtain ⟨⟨hf0,hf1,hf2,hf3,hf4⟩,hf5,hf6,hf7,hf8,hf9⟩:=blk10f hkz_r))
  all_goals (
   go_wp2
   have hbw4:Below w.heap.size w w4:=hb_.trans ((hb3X.mono hsB).trans (hb4X.mono (Nat.le_trans hsB hb3X.size)))
   have hs34:=Nat.le_trans hb3X.size hb4X.size
   refine bodyPost_ret (v:=.tuple #[.agg #[.int .i64 d1r,.int .i64 f1r,.slice G1 ss1r.length q1,.int .i64 d2r,.int .i64 f2r,.slice G2 ss2r.length q2,.slice G3 str.length q3,.slice G4 Pr.length q4,.slice G5 ppr.length q5,.int .i64 mr],.bool rb]) (by simp [results,Tryz.results88,go_sem, *]) rfl ?_
   have qaa:=boxAt_of hkz_r
   clear hb3 hb4 hb3X hb4X
   obtain ⟨wE,heE⟩:∃ x,x=((((((((((w4.setCell ⟨w.heap.size+1+1,0,none⟩ (.int .i64 d1r)).setCell ⟨w.heap.size+1+1,1,none⟩ (.int .i64 f1r)).setCell ⟨w.heap.size+1+1,2,none⟩ (.slice G1 ss1r.length q1)).setCell ⟨w.heap.size+1+1,3,none⟩ (.int .i64 d2r)).setCell ⟨w.heap.size+1+1,4,none⟩ (.int .i64 f2r)).setCell ⟨w.heap.size+1+1,5,none⟩ (.slice G2 ss2r.length q2)).setCell ⟨w.heap.size+1+1,6,none⟩ (.slice G3 str.length q3)).setCell ⟨w.heap.size+1+1,7,none⟩ (.slice G4 Pr.length q4)).setCell ⟨w.heap.size+1+1,8,none⟩ (.slice G5 ppr.length q5)).setCell ⟨w.heap.size+1+1,9,none⟩ (.int .i64 mr)):=⟨_,rfl⟩
   have hBX:Boxy w4 wE:=by rw [heE];exact boxy
   have hBW:Below w.heap.size w wE:=by rw [heE];exact bel
   have hsE:wE.heap.size=w4.heap.size:=by rw [heE];simp [World.setCell]
   rw [← heE]
   have hOW:OwnW wE w.heap.size wE.heap.size G1 q1 G2 q2 G3 q3 G4 q4 G5 q5 (PDraft.mk d1r f1r ss1r d2r f2r ss2r str) Pr ppr:=(ho4X.boxy hBX).wide (by omega) (by omega)
   exact ⟨G1,q1,G2,q2,G3,q3,G4,q4,G5,q5,rfl,hOW,hBW⟩)
 ·obtain ⟨nma,hnme⟩:∃ x,nameOf a=x:=⟨_,rfl⟩
  have hnma:nma.size≤16777216:=by rw [← hnme];have:=nameOf_size a;omega
  have hcall:=fun (W:World) (hW1:RdWork W B A1 A2 A3 A4 c4 A5 (PDraft.mk d1 f1 ss1 d2 f2 ss2 st) P pp) (hW2:B≤W.heap.size)=>i_ForgetCard d1 f1 ss1 d2 f2 ss2 st P pp m nma B A1 A2 A3 A4 A5 c1 c2 c3 c4 c5 W hW1 hW2 hok
  rw [perf_7]
  rw [hnme]
  generalize forgetRes (PWork.mk (PDraft.mk d1 f1 ss1 d2 f2 ss2 st) P pp m) nma=R at *
  obtain ⟨⟨⟨d1r,f1r,ss1r,d2r,f2r,ss2r,str⟩,Pr,ppr,mr⟩,rb⟩:=R
  simp only at hcall ⊢
  have HCALL:=hide hcall
  clear hcall hok hk8
  go_enter Tryz.func88,Tryz.ntmps88
  go_wp2
  generalize e_:(World.alloc _ _)=w1
  symm at e_
  have k_a:=hkc e_ (blk_alloc (blk_alloc (blk_alloc (bnk w.heap.size) _) _) _)
  have k_act:=hkc e_ (blk_alloc (blk_alloc (bnk (w.heap.size+1)) _) _)
  have k_r:=hkc e_ (blk_alloc (bnk (w.heap.size+1+1)) _)
  have k_bx:=hkc e_ (bnk (w.heap.size+1+1+1))
  have hX_:Boxy w w1:=by rw [e_];exact boxy
  have hb_:Below w.heap.size w w1:=by rw [e_];exact bel
  have c_w1:=hX_.size
  clear e_ hX_
  obtain ⟨x0a,x1a,x2a,x3a,x4a,x5a,x6a,x7a,x8a,x9a,xla⟩:=blk10 k_a
  obtain ⟨x0act,x1act,x2act,xlact⟩:=blk3 k_act
  have hsB:=hb_.size
  have hSq:=hS.below (hb_.mono hB)
  have hB2:B≤w.heap.size+1+1:=by omega
  have hB3:B≤w1.heap.size:=by omega
  have hz2q:w.heap.size+1+1≤w1.heap.size:=by have h9:=blk_lt k_r;omega
  go_region_held3 (fun W=>(∀ b o,b<w.heap.size+1+1→W.cell? ⟨b,o,none⟩=(w1).cell? ⟨b,o,none⟩)∧(∀ b o,b<w.heap.size+1+1→W.frozen? ⟨b,o,none⟩=(w1).frozen? ⟨b,o,none⟩)∧Below (w.heap.size+1+1) (w1) W) (exact keep_of bel) (first|(go_at_call 30;have hq:=(‹_∧_∧Below _ _ _›).2.2;refine (i_NameFor a _ ha0 ha9).mono ?_;rw [hnme];rintro e w3 ⟨rfl,hb3⟩;have hqs3:=hq.size;have hbs3:=hb3.size;(try simp at hqs3);(try simp at hbs3);(have hb3X:Below w1.heap.size w1 w3:=(by first|exact hb3|exact ⟨hb3.os,hb3.tape,hb3.output,hb3.size,hb3.block⟩)))|(go_at_call 144;have hq:=(‹_∧_∧Below _ _ _›).2.2;refine (unhide HCALL _ (hSq.below (hq.mono hB2)) (Nat.le_trans hB3 hq.size)).mono ?_;rintro e w4 ⟨G1,q1,G2,q2,G3,q3,G4,q4,G5,q5,rfl,ho4,hb4⟩;(have ho4X:=ho4.wide (lo':=w.heap.size) (Nat.le_trans hsB hq.size) (Nat.le_refl _));have hqs4:=hq.size;have hbs4:=hb4.size;(try simp at hqs4);(try simp at hbs4);(have hb4X:Below w3.heap.size w3 w4:=(by first|exact hb4|exact ⟨hb4.os,hb4.tape,hb4.output,hb4.size,hb4.block⟩));(have hkz_a:=blk_next (blk_next k_a hb3X) hb4X);(have hkz_act:=blk_next (blk_next k_act hb3X) hb4X);(have hkz_r:=blk_next (blk_next k_r hb3X) hb4X);(have hkz_bx:=blk_next (blk_next k_bx hb3X) hb4X);obtain ⟨hv0,hv1,hv2,hv3,hv4,hv5,hv6,hv7,hv8,hv9,hvl⟩:=blk10 hkz_r;obtain ⟨⟨hf0,hf1,hf2,hf3,hf4⟩,hf5,hf6,hf7,hf8,hf9⟩:=blk10f hkz_r))
  all_goals (
   go_wp2
   have hbw4:Below w.heap.size w w4:=hb_.trans ((hb3X.mono hsB).trans (hb4X.mono (Nat.le_trans hsB hb3X.size)))
   have hs34:=Nat.le_trans hb3X.size hb4X.size
   refine bodyPost_ret (v:=.tuple #[.agg #[.int .i64 d1r,.int .i64 f1r,.slice G1 ss1r.length q1,.int .i64 d2r,.int .i64 f2r,.slice G2 ss2r.length q2,.slice G3 str.length q3,.slice G4 Pr.length q4,.slice G5 ppr.length q5,.int .i64 mr],.bool rb]) (by simp [results,Tryz.results88,go_sem, *]) rfl ?_
   have qaa:=boxAt_of hkz_r
   clear hb3 hb4 hb3X hb4X
   obtain ⟨wE,heE⟩:∃ x,x=((((((((((w4.setCell ⟨w.heap.size+1+1,0,none⟩ (.int .i64 d1r)).setCell ⟨w.heap.size+1+1,1,none⟩ (.int .i64 f1r)).setCell ⟨w.heap.size+1+1,2,none⟩ (.slice G1 ss1r.length q1)).setCell ⟨w.heap.size+1+1,3,none⟩ (.int .i64 d2r)).setCell ⟨w.heap.size+1+1,4,none⟩ (.int .i64 f2r)).setCell ⟨w.heap.size+1+1,5,none⟩ (.slice G2 ss2r.length q2)).setCell ⟨w.heap.size+1+1,6,none⟩ (.slice G3 str.length q3)).setCell ⟨w.heap.size+1+1,7,none⟩ (.slice G4 Pr.length q4)).setCell ⟨w.heap.size+1+1,8,none⟩ (.slice G5 ppr.length q5)).setCell ⟨w.heap.size+1+1,9,none⟩ (.int .i64 mr)):=⟨_,rfl⟩
   have hBX:Boxy w4 wE:=by rw [heE];exact boxy
   have hBW:Below w.heap.size w wE:=by rw [heE];exact bel
   have hsE:wE.heap.size=w4.heap.size:=by rw [heE];simp [World.setCell]
   rw [← heE]
   have hOW:OwnW wE w.heap.size wE.heap.size G1 q1 G2 q2 G3 q3 G4 q4 G5 q5 (PDraft.mk d1r f1r ss1r d2r f2r ss2r str) Pr ppr:=(ho4X.boxy hBX).wide (by omega) (by omega)
   exact ⟨G1,q1,G2,q2,G3,q3,G4,q4,G5,q5,rfl,hOW,hBW⟩)
 ·exact absurd rfl hk8
end Go.Proofs.YtlimlolciekimaaGreatDoor
