/- Contracts of the program's and the reference's functions (Open1, Open2i, Open2s, Sample1). -/
import Derived.Deep.DeepCutAuto
import Derived.Deep.RegionHeld3
import Derived.Test.YtlimlolciekimaaGreatDoorRows
import Derived.Test.YtlimlolciekimaaGreatDoorQUn
import Derived.Test.YtlimlolciekimaaGreatDoorQUb
namespace Go.Proofs.YtlimlolciekimaaGreatDoor
set_option maxHeartbeats 1600000
open Go.ChangeShapes Go.WideShapes Go.ChangeAt Go.RowKit
set_option linter.unusedVariables false
set_option linter.unusedSimpArgs false
set_option maxRecDepth 10000
def openW (d f:Int) (ss:List ByteArray) (m:Int):PWork×Bool :=
 if workOk ⟨⟨d,f,ss,d,f,ss,[]⟩,[],[],m⟩=true then (⟨⟨d,f,ss,d,f,ss,[]⟩,[],[],m⟩,true) else (⟨⟨0,0,[],0,0,[],[]⟩,[],[],0⟩,false)
theorem openW_yes {d f:Int} {ss:List ByteArray} {m:Int} (h:workOk ⟨⟨d,f,ss,d,f,ss,[]⟩,[],[],m⟩=true):openW d f ss m=(⟨⟨d,f,ss,d,f,ss,[]⟩,[],[],m⟩,true):=if_pos h
theorem openW_no {d f:Int} {ss:List ByteArray} {m:Int} (h:workOk ⟨⟨d,f,ss,d,f,ss,[]⟩,[],[],m⟩=false):openW d f ss m=(⟨⟨0,0,[],0,0,[],[]⟩,[],[],0⟩,false):=by unfold openW;rw [h];rfl
theorem rd_open {w:World} {B:Nat} {A8 A9:Option Addr} {d f:Int} {ss:List ByteArray} (h1:Strs w B A8 ss.length ss) (h2:Strs w B A9 ss.length ss):RdWork w B A8 A9 none none 0 none ⟨d,f,ss,d,f,ss,[]⟩ [] [] :=
 ⟨⟨h1,h2,⟨Reads.none_,by simp,fun s hs=>by cases hs⟩⟩,⟨[],rfl,⟨Reads.none_,by simp,fun r hr=>by cases hr⟩⟩,⟨Reads.none_,by simp⟩,⟨Nat.zero_le _,by omega,fun _=>rfl⟩⟩
theorem own_open {w:World} {b q h:Nat} {A8 A9:Option Addr} {c8 c9:Nat} {d f:Int} {ss:List ByteArray} (h8:OwnS w b q A8 c8 ss) (h9:OwnS w q h A9 c9 ss) (hbq:b≤q) (hqh:q≤h):OwnW w b h A8 c8 A9 c9 none 0 none 0 none 0 ⟨d,f,ss,d,f,ss,[]⟩ [] [] :=
 OwnW.mk3 (l1:=b) (h1:=h) (l2:=h) (h2:=h) (l3:=h) (h3:=h) (L:=[]) ⟨h8.wide (Nat.le_refl _) hqh,h9.wide hbq (Nat.le_refl _),⟨0,⟨World.ownsRow_nil w _ _ _,fun k hk=>by simp [Value.ownBlock] at hk⟩⟩,fun k hk hk2=>by
   have h1:=h8.top k hk
   have h2:=(h9.row.lt k hk2).1
   omega⟩ rfl (OwnItems.nil (World.ownsRow_nil w _ _ _) (fun k hk=>by simp [Value.ownBlock] at hk)) ⟨World.ownsRow_nil w _ _ _,fun k hk=>by simp [Value.ownBlock] at hk⟩ (by omega) (by omega)
theorem own_zeroW (w:World) (b:Nat):OwnW w b b none 0 none 0 none 0 none 0 none 0 ⟨0,0,[],0,0,[],[]⟩ [] [] :=
 OwnW.mk3 (l1:=b) (h1:=b) (l2:=b) (h2:=b) (l3:=b) (h3:=b) (L:=[]) ⟨⟨World.ownsRow_nil w _ _ _,fun k hk=>by simp [Value.ownBlock] at hk⟩,⟨World.ownsRow_nil w _ _ _,fun k hk=>by simp [Value.ownBlock] at hk⟩,⟨0,⟨World.ownsRow_nil w _ _ _,fun k hk=>by simp [Value.ownBlock] at hk⟩⟩,fun k hk=>by simp [Value.ownBlock] at hk⟩ rfl (OwnItems.nil (World.ownsRow_nil w _ _ _) (fun k hk=>by simp [Value.ownBlock] at hk)) ⟨World.ownsRow_nil w _ _ _,fun k hk=>by simp [Value.ownBlock] at hk⟩ (by omega) (by omega)
theorem open_and {a b c d e:Prop} (h:a∧b∧c∧d) (he:e):a∧b∧c∧d∧e:=⟨h.1,h.2.1,h.2.2.1,h.2.2.2,he⟩
theorem leafO {wf w0:World} {b g q:Nat} {d f m:Int} {ss:List ByteArray} {A8 A9:Option Addr} {c8 c9:Nat} {z0 z1 z2 z3 z4 z5 z6 z7 z8 z9:Value} (hk:wf.heap[g]?=some (.cells #[z0,z1,z2,z3,z4,z5,z6,z7,z8,z9] 33 (0,0))) (h8:OwnS wf b q A8 c8 ss) (h9:OwnS wf q wf.heap.size A9 c9 ss) (hb:Below b w0 wf) (hg:b≤g) :
  ((((((((((wf.setCell ⟨g,0,none⟩ (.int .i64 d)).setCell ⟨g,1,none⟩ (.int .i64 f)).setCell ⟨g,2,none⟩ (.slice A8 ss.length c8)).setCell ⟨g,3,none⟩ (.int .i64 d)).setCell ⟨g,4,none⟩ (.int .i64 f)).setCell ⟨g,5,none⟩ (.slice A9 ss.length c9)).setCell ⟨g,6,none⟩ (.slice none 0 0)).setCell ⟨g,7,none⟩ (.slice none 0 0)).setCell ⟨g,8,none⟩ (.slice none 0 0)).setCell ⟨g,9,none⟩ (.int .i64 m)).heap[g]?=some (.cells #[.int .i64 d,.int .i64 f,.slice A8 ss.length c8,.int .i64 d,.int .i64 f,.slice A9 ss.length c9,.slice none 0 0,.slice none 0 0,.slice none 0 0,.int .i64 m] 33 (0,0))∧(OwnS ((((((((((wf.setCell ⟨g,0,none⟩ (.int .i64 d)).setCell ⟨g,1,none⟩ (.int .i64 f)).setCell ⟨g,2,none⟩ (.slice A8 ss.length c8)).setCell ⟨g,3,none⟩ (.int .i64 d)).setCell ⟨g,4,none⟩ (.int .i64 f)).setCell ⟨g,5,none⟩ (.slice A9 ss.length c9)).setCell ⟨g,6,none⟩ (.slice none 0 0)).setCell ⟨g,7,none⟩ (.slice none 0 0)).setCell ⟨g,8,none⟩ (.slice none 0 0)).setCell ⟨g,9,none⟩ (.int .i64 m)) b q A8 c8 ss∧OwnS ((((((((((wf.setCell ⟨g,0,none⟩ (.int .i64 d)).setCell ⟨g,1,none⟩ (.int .i64 f)).setCell ⟨g,2,none⟩ (.slice A8 ss.length c8)).setCell ⟨g,3,none⟩ (.int .i64 d)).setCell ⟨g,4,none⟩ (.int .i64 f)).setCell ⟨g,5,none⟩ (.slice A9 ss.length c9)).setCell ⟨g,6,none⟩ (.slice none 0 0)).setCell ⟨g,7,none⟩ (.slice none 0 0)).setCell ⟨g,8,none⟩ (.slice none 0 0)).setCell ⟨g,9,none⟩ (.int .i64 m)) q ((((((((((wf.setCell ⟨g,0,none⟩ (.int .i64 d)).setCell ⟨g,1,none⟩ (.int .i64 f)).setCell ⟨g,2,none⟩ (.slice A8 ss.length c8)).setCell ⟨g,3,none⟩ (.int .i64 d)).setCell ⟨g,4,none⟩ (.int .i64 f)).setCell ⟨g,5,none⟩ (.slice A9 ss.length c9)).setCell ⟨g,6,none⟩ (.slice none 0 0)).setCell ⟨g,7,none⟩ (.slice none 0 0)).setCell ⟨g,8,none⟩ (.slice none 0 0)).setCell ⟨g,9,none⟩ (.int .i64 m)).heap.size A9 c9 ss)∧b≤g∧Below b w0 ((((((((((wf.setCell ⟨g,0,none⟩ (.int .i64 d)).setCell ⟨g,1,none⟩ (.int .i64 f)).setCell ⟨g,2,none⟩ (.slice A8 ss.length c8)).setCell ⟨g,3,none⟩ (.int .i64 d)).setCell ⟨g,4,none⟩ (.int .i64 f)).setCell ⟨g,5,none⟩ (.slice A9 ss.length c9)).setCell ⟨g,6,none⟩ (.slice none 0 0)).setCell ⟨g,7,none⟩ (.slice none 0 0)).setCell ⟨g,8,none⟩ (.slice none 0 0)).setCell ⟨g,9,none⟩ (.int .i64 m)):=by
 have hbx:=boxAt_of hk
 have hB:Boxy wf ((((((((((wf.setCell ⟨g,0,none⟩ (.int .i64 d)).setCell ⟨g,1,none⟩ (.int .i64 f)).setCell ⟨g,2,none⟩ (.slice A8 ss.length c8)).setCell ⟨g,3,none⟩ (.int .i64 d)).setCell ⟨g,4,none⟩ (.int .i64 f)).setCell ⟨g,5,none⟩ (.slice A9 ss.length c9)).setCell ⟨g,6,none⟩ (.slice none 0 0)).setCell ⟨g,7,none⟩ (.slice none 0 0)).setCell ⟨g,8,none⟩ (.slice none 0 0)).setCell ⟨g,9,none⟩ (.int .i64 m)):=boxy
 refine ⟨blk10_set hk _ _ _ _ _ _ _ _ _ _,⟨h8.boxy hB,(h9.boxy hB).wide (Nat.le_refl _) (by simp [World.setCell])⟩,hg,bel⟩
theorem leafON {wf w0:World} {b g q:Nat} {d f m:Int} {ss:List ByteArray} {A8 A9:Option Addr} {c8 c9:Nat} (hb:Below b w0 wf) (h8:OwnS wf b q A8 c8 ss) (h9:OwnS wf q wf.heap.size A9 c9 ss) (hg:g=wf.heap.size) (hg2:b≤g) :
  (wf.alloc (.cells #[.int .i64 d,.int .i64 f,.slice A8 ss.length c8,.int .i64 d,.int .i64 f,.slice A9 ss.length c9,.slice none 0 0,.slice none 0 0,.slice none 0 0,.int .i64 m] 33)).heap[g]?=some (.cells #[.int .i64 d,.int .i64 f,.slice A8 ss.length c8,.int .i64 d,.int .i64 f,.slice A9 ss.length c9,.slice none 0 0,.slice none 0 0,.slice none 0 0,.int .i64 m] 33 (0,0))∧(OwnS (wf.alloc (.cells #[.int .i64 d,.int .i64 f,.slice A8 ss.length c8,.int .i64 d,.int .i64 f,.slice A9 ss.length c9,.slice none 0 0,.slice none 0 0,.slice none 0 0,.int .i64 m] 33)) b q A8 c8 ss∧OwnS (wf.alloc (.cells #[.int .i64 d,.int .i64 f,.slice A8 ss.length c8,.int .i64 d,.int .i64 f,.slice A9 ss.length c9,.slice none 0 0,.slice none 0 0,.slice none 0 0,.int .i64 m] 33)) q (wf.alloc (.cells #[.int .i64 d,.int .i64 f,.slice A8 ss.length c8,.int .i64 d,.int .i64 f,.slice A9 ss.length c9,.slice none 0 0,.slice none 0 0,.slice none 0 0,.int .i64 m] 33)).heap.size A9 c9 ss)∧b≤g∧Below b w0 (wf.alloc (.cells #[.int .i64 d,.int .i64 f,.slice A8 ss.length c8,.int .i64 d,.int .i64 f,.slice A9 ss.length c9,.slice none 0 0,.slice none 0 0,.slice none 0 0,.int .i64 m] 33)):=by
 subst hg
 exact ⟨blk_new_at _ _ rfl,⟨h8.alloc _,(h9.alloc _).wide (Nat.le_refl _) (by simp)⟩,hg2,bel⟩
set_option maxHeartbeats 3200000 in
theorem s_OpenWorkshop (d f m:Int) (B:Nat) (A:Option Addr) (c:Nat) (ss:List ByteArray) (w:World) (hS:Strs w B A ss.length ss) (hB:B≤w.heap.size) (hss:OkS ss 16777216) :
  Calls Tryz.prog 127 #[.agg #[.int .i64 d,.int .i64 f,.slice A ss.length c],.int .i64 m] w (UWorkB (openW d f ss m).1.D.d1 (openW d f ss m).1.D.f1 (openW d f ss m).1.D.ss1 (openW d f ss m).1.D.d2 (openW d f ss m).1.D.f2 (openW d f ss m).1.D.ss2 (openW d f ss m).1.D.st (openW d f ss m).1.P (openW d f ss m).1.pp (openW d f ss m).1.m (openW d f ss m).2 w):=by
 have hyes:=fun h=>openW_yes (d:=d) (f:=f) (ss:=ss) (m:=m) h
 have hno:=fun h=>openW_no (d:=d) (f:=f) (ss:=ss) (m:=m) h
 generalize openW d f ss m=R at *
 cases hw1:workOk (PWork.mk (PDraft.mk d f ss d f ss []) [] [] m)
 case false =>
  have HR4:=Lib.hid (hno hw1)
  have HW1:=Lib.hid hw1
  clear hyes hno hw1
  go_enter Tryz.func127,Tryz.ntmps127
  go_wp2
  obtain ⟨w1,qca⟩:∃ x,x=((w.alloc (.cells #[.int .i64 d,.int .i64 f,.slice A ss.length c] 26)).alloc (.cells #[.int .i64 0,.int .i64 0,.slice none 0 0,.int .i64 0,.int .i64 0,.slice none 0 0,.slice none 0 0,.slice none 0 0,.slice none 0 0,.int .i64 0] 33)):=⟨_,rfl⟩
  have qka:w1.heap[w.heap.size]?=some (.cells #[.int .i64 d,.int .i64 f,.slice A ss.length c] 26 (0,0)):=by rw [qca];exact (blk_alloc (blk_new_at w (.cells #[.int .i64 d,.int .i64 f,.slice A ss.length c] 26) (k:=w.heap.size) (by simp [World.setCell])) _)
  have qga:w1.heap[w.heap.size+1]?=some (.cells #[.int .i64 0,.int .i64 0,.slice none 0 0,.int .i64 0,.int .i64 0,.slice none 0 0,.slice none 0 0,.slice none 0 0,.slice none 0 0,.int .i64 0] 33 (0,0)):=by rw [qca];exact (blk_new_at (w.alloc (.cells #[.int .i64 d,.int .i64 f,.slice A ss.length c] 26)) (.cells #[.int .i64 0,.int .i64 0,.slice none 0 0,.int .i64 0,.int .i64 0,.slice none 0 0,.slice none 0 0,.slice none 0 0,.slice none 0 0,.int .i64 0] 33) (k:=w.heap.size+1) (by simp [World.setCell]))
  have qea:Below w.heap.size w w1:=by rw [qca];exact bel
  have qla:=qea.size
  have qzb:w.heap.size≤w1.heap.size:=by rw [qca];simp [World.setCell];try omega
  rw [← qca]
  clear qca
  obtain ⟨qbc,qcc,qdc,qec⟩:=blk3 qka
  have hS1:=hS.below (qea.mono hB)
  have hsB:=qla
  have hB3:B≤w1.heap.size:=by omega
  go_cut [6] (fun s6 wx=>∃ (g:Nat) (A8 A9:Option Addr) (c8 c9 q9:Nat),s6=.pointer (some ⟨g,0,none⟩)∧wx.heap[g]?=some (.cells #[.int .i64 d,.int .i64 f,.slice A8 ss.length c8,.int .i64 d,.int .i64 f,.slice A9 ss.length c9,.slice none 0 0,.slice none 0 0,.slice none 0 0,.int .i64 m] 33 (0,0))∧(OwnS wx w1.heap.size q9 A8 c8 ss∧OwnS wx q9 wx.heap.size A9 c9 ss)∧w1.heap.size≤g∧Below w1.heap.size w1 wx∧(w1.heap.size≤q9∧q9≤wx.heap.size))
  case first =>
   have tok1:True:=trivial
   go_region_held3 (fun W=>(∀ b o,b<w1.heap.size→W.cell? ⟨b,o,none⟩=(w1).cell? ⟨b,o,none⟩)∧(∀ b o,b<w1.heap.size→W.frozen? ⟨b,o,none⟩=(w1).frozen? ⟨b,o,none⟩)∧Below (w1.heap.size) (w1) W) (exact keep_of bel) (first|(go_at_call 181;have _t:=tok1;have hq:=(‹_∧_∧Below _ _ _›).2.2;refine (s_l05Copy d f B A ss.length c ss _ ?_ ?_).mono ?_;exact hS1.below (hq.mono hB3);exact Nat.le_trans hB3 hq.size;rintro e w13 ⟨A3,c3,rfl,ho13,hb13⟩;clear _t tok1;have hqs13:=hq.size;have hbs13:=hb13.size;(try simp at hqs13);(try simp at hbs13);(have hos8:OwnS w13 w1.heap.size w13.heap.size A3 c3 ss:=(OwnS.of ho13 (Nat.le_refl _)).wide (by first|exact hq.size|omega) (Nat.le_refl _));obtain ⟨hcb13,hfb13⟩:=bcell hb13;(try (have hzl13:w1.heap.size<w13.heap.size:=(by omega))))|(go_at_call 181;have hq:=(‹_∧_∧Below _ _ _›).2.2;refine (s_l05Copy d f B A ss.length c ss _ ?_ ?_).mono ?_;exact hS1.below (hq.mono hB3);exact Nat.le_trans hB3 hq.size;rintro e w14 ⟨A4,c4,rfl,ho14,hb14⟩;have hqs14:=hq.size;have hbs14:=hb14.size;(try simp at hqs14);(try simp at hbs14);(have hos9:OwnS w14 w13.heap.size w14.heap.size A4 c4 ss:=(OwnS.of ho14 (Nat.le_refl _)).wide (by first|exact Nat.le_refl _|(simp;done)|omega) (Nat.le_refl _));(have hz8:w1.heap.size≤w13.heap.size:=(by omega));(have hz9:w13.heap.size≤w14.heap.size:=(by omega));obtain ⟨hcb14,hfb14⟩:=bcell hb14;(try (have hzl14:w1.heap.size<w14.heap.size:=(by omega)));(try (have hzm14:w13.heap.size<w14.heap.size:=(by omega)))))
   all_goals (go_wp2_with fail)
   all_goals (go_meet)
   all_goals (
    refine ⟨_,A3,A4,c3,c4,w13.heap.size,rfl,?_⟩
    refine open_and ?_ ⟨hz8,by first|(with_reducible exact hz9)|(simp [World.setCell];omega)|omega⟩
    first
     |((with_reducible refine leafON ?_ ?_ ?_ ?_ ?_);(first|exact bel);(focus ((repeat (first|(with_reducible exact hos8)|(with_reducible exact hos9)|(with_reducible refine OwnS.drew ?_)|(with_reducible refine OwnS.alloc ?_ _)|(with_reducible refine OwnS.below ?_ hb14)));(first|done|fail)));(focus ((repeat (first|(with_reducible exact hos8)|(with_reducible exact hos9)|(with_reducible refine OwnS.drew ?_)|(with_reducible refine OwnS.alloc ?_ _)|(with_reducible refine OwnS.below ?_ hb14)));(first|done|fail)));(first|rfl|(simp;first|done|fail));(first|omega|(simp;first|done|omega)))
     |((with_reducible apply leafO);(case hk=>(focus ((repeat (first|(with_reducible exact blk_new_at _ _ (by first|rfl|(simp;first|done|fail)))|(with_reducible refine blk_next ?_ hb14)|(with_reducible refine blk_next ?_ hb13)|(with_reducible refine blk_drew ?_)|(with_reducible refine blk_alloc ?_ _)));(first|done|fail))));(case h8=>(focus ((repeat (first|(with_reducible exact hos8)|(with_reducible exact hos9)|(with_reducible refine OwnS.drew ?_)|(with_reducible refine OwnS.alloc ?_ _)|(with_reducible refine OwnS.below ?_ hb14)));(first|done|fail))));(case h9=>(focus ((repeat (first|(with_reducible exact hos8)|(with_reducible exact hos9)|(with_reducible refine OwnS.drew ?_)|(with_reducible refine OwnS.alloc ?_ _)|(with_reducible refine OwnS.below ?_ hb14)));(first|done|fail))));(case hb=>exact bel);(case hg=>first|omega|(simp;first|done|omega))))
  obtain ⟨g9,A8,A9,c8,c9,q9,rfl,hk9,⟨ho8,ho9⟩,hg9,hb9,hq91,hq92⟩:=hcut
  obtain ⟨w25,hwc⟩:∃ Q9:World,Q9=wc:=⟨_,rfl⟩
  subst hwc
  clear qbc qcc qdc qec
  have hs9:=hb9.size
  have qha:=blk_next qka hb9
  have qia:=blk_next qga hb9
  have qfa:Below w.heap.size w w25:=qea.trans (hb9.mono hsB)
  have qma:=qfa.size
  clear hb9
  obtain ⟨qsa,qta,qua,qva,qwa,qxa,qya,qza,qab,qbb,qcb⟩:=blk10 hk9
  go_wp2_with fail
  clear qsa qta qua qva qwa qxa qya qza qab qbb qcb
  refine (s_WorkshopOk d f ss d f ss [] [] [] m w25.heap.size A8 A9 none none none c8 c9 0 0 0 w25 (rd_open (ho8.rd hss.1 hss.2) (ho9.rd hss.1 hss.2)) (Nat.le_refl _)).mono ?_
  rw [HW1.out]
  rintro e w2 ⟨rfl,qba⟩
  have qgc:=blk_next qha qba
  have qaa:=blk_next qia qba
  have qyb:=blk_next hk9 qba
  have qna:=ho8.below qba
  have qoa:=ho9.below qba
  have qja:Below w.heap.size w w2:=qfa.trans (qba.mono qma)
  have qpa:=qja.size
  have qac:w25.heap.size≤w2.heap.size:=qba.size
  clear qha qia hk9 ho8 ho9 qfa qma qba
  clear qna
  clear qoa
  obtain ⟨qdb,qeb,qfb,qgb,qhb,qib,qjb,qkb,qlb,qmb,qnb⟩:=blk10 qaa
  have qob:=(blk_cells qaa 0).2
  have qpb:=(blk_cells qaa 1).2
  have qqb:=(blk_cells qaa 2).2
  have qrb:=(blk_cells qaa 3).2
  have qsb:=(blk_cells qaa 4).2
  have qtb:=(blk_cells qaa 5).2
  have qub:=(blk_cells qaa 6).2
  have qvb:=(blk_cells qaa 7).2
  have qwb:=(blk_cells qaa 8).2
  have qxb:=(blk_cells qaa 9).2
  go_wp2
  have qfc:=boxAt_of qaa
  refine bodyPost_ret (v:=.tuple #[.agg #[.int .i64 0,.int .i64 0,.slice none 0 0,.int .i64 0,.int .i64 0,.slice none 0 0,.slice none 0 0,.slice none 0 0,.slice none 0 0,.int .i64 0],.bool false]) (by simp [results,Tryz.results127,go_sem, *]) rfl ?_
  clear qdb qeb qfb qgb qhb qib qjb qkb qlb qmb qnb qob qpb qqb qrb qsb qtb qub qvb qwb qxb
  obtain ⟨wE,heE⟩:∃ x,x=((((((((((w2.setCell ⟨w.heap.size+1,0,none⟩ (.int .i64 0)).setCell ⟨w.heap.size+1,1,none⟩ (.int .i64 0)).setCell ⟨w.heap.size+1,2,none⟩ (.slice none 0 0)).setCell ⟨w.heap.size+1,3,none⟩ (.int .i64 0)).setCell ⟨w.heap.size+1,4,none⟩ (.int .i64 0)).setCell ⟨w.heap.size+1,5,none⟩ (.slice none 0 0)).setCell ⟨w.heap.size+1,6,none⟩ (.slice none 0 0)).setCell ⟨w.heap.size+1,7,none⟩ (.slice none 0 0)).setCell ⟨w.heap.size+1,8,none⟩ (.slice none 0 0)).setCell ⟨w.heap.size+1,9,none⟩ (.int .i64 0)):=⟨_,rfl⟩
  have hBW:Below w.heap.size w wE:=by rw [heE];exact bel
  have hsE:wE.heap.size=w2.heap.size:=by rw [heE];simp [World.setCell]
  rw [← heE]
  clear heE
  have hOW:=own_zeroW wE wE.heap.size
  exact uwb_cast HR4.out ⟨none,0,none,0,none,0,none,0,none,0,rfl,hOW.wide (by omega) (Nat.le_refl _),hBW⟩
 case true =>
  have HR4:=Lib.hid (hyes hw1)
  have HW1:=Lib.hid hw1
  clear hyes hno hw1
  go_enter Tryz.func127,Tryz.ntmps127
  go_wp2
  obtain ⟨w1,qca⟩:∃ x,x=((w.alloc (.cells #[.int .i64 d,.int .i64 f,.slice A ss.length c] 26)).alloc (.cells #[.int .i64 0,.int .i64 0,.slice none 0 0,.int .i64 0,.int .i64 0,.slice none 0 0,.slice none 0 0,.slice none 0 0,.slice none 0 0,.int .i64 0] 33)):=⟨_,rfl⟩
  have qka:w1.heap[w.heap.size]?=some (.cells #[.int .i64 d,.int .i64 f,.slice A ss.length c] 26 (0,0)):=by rw [qca];exact (blk_alloc (blk_new_at w (.cells #[.int .i64 d,.int .i64 f,.slice A ss.length c] 26) (k:=w.heap.size) (by simp [World.setCell])) _)
  have qga:w1.heap[w.heap.size+1]?=some (.cells #[.int .i64 0,.int .i64 0,.slice none 0 0,.int .i64 0,.int .i64 0,.slice none 0 0,.slice none 0 0,.slice none 0 0,.slice none 0 0,.int .i64 0] 33 (0,0)):=by rw [qca];exact (blk_new_at (w.alloc (.cells #[.int .i64 d,.int .i64 f,.slice A ss.length c] 26)) (.cells #[.int .i64 0,.int .i64 0,.slice none 0 0,.int .i64 0,.int .i64 0,.slice none 0 0,.slice none 0 0,.slice none 0 0,.slice none 0 0,.int .i64 0] 33) (k:=w.heap.size+1) (by simp [World.setCell]))
  have qea:Below w.heap.size w w1:=by rw [qca];exact bel
  have qla:=qea.size
  have qzb:w.heap.size≤w1.heap.size:=by rw [qca];simp [World.setCell];try omega
  rw [← qca]
  clear qca
  obtain ⟨qbc,qcc,qdc,qec⟩:=blk3 qka
  have hS1:=hS.below (qea.mono hB)
  have hsB:=qla
  have hB3:B≤w1.heap.size:=by omega
  go_cut [6] (fun s6 wx=>∃ (g:Nat) (A8 A9:Option Addr) (c8 c9 q9:Nat),s6=.pointer (some ⟨g,0,none⟩)∧wx.heap[g]?=some (.cells #[.int .i64 d,.int .i64 f,.slice A8 ss.length c8,.int .i64 d,.int .i64 f,.slice A9 ss.length c9,.slice none 0 0,.slice none 0 0,.slice none 0 0,.int .i64 m] 33 (0,0))∧(OwnS wx w1.heap.size q9 A8 c8 ss∧OwnS wx q9 wx.heap.size A9 c9 ss)∧w1.heap.size≤g∧Below w1.heap.size w1 wx∧(w1.heap.size≤q9∧q9≤wx.heap.size))
  case first =>
   have tok1:True:=trivial
   go_region_held3 (fun W=>(∀ b o,b<w1.heap.size→W.cell? ⟨b,o,none⟩=(w1).cell? ⟨b,o,none⟩)∧(∀ b o,b<w1.heap.size→W.frozen? ⟨b,o,none⟩=(w1).frozen? ⟨b,o,none⟩)∧Below (w1.heap.size) (w1) W) (exact keep_of bel) (first|(go_at_call 181;have _t:=tok1;have hq:=(‹_∧_∧Below _ _ _›).2.2;refine (s_l05Copy d f B A ss.length c ss _ ?_ ?_).mono ?_;exact hS1.below (hq.mono hB3);exact Nat.le_trans hB3 hq.size;rintro e w13 ⟨A3,c3,rfl,ho13,hb13⟩;clear _t tok1;have hqs13:=hq.size;have hbs13:=hb13.size;(try simp at hqs13);(try simp at hbs13);(have hos8:OwnS w13 w1.heap.size w13.heap.size A3 c3 ss:=(OwnS.of ho13 (Nat.le_refl _)).wide (by first|exact hq.size|omega) (Nat.le_refl _));obtain ⟨hcb13,hfb13⟩:=bcell hb13;(try (have hzl13:w1.heap.size<w13.heap.size:=(by omega))))|(go_at_call 181;have hq:=(‹_∧_∧Below _ _ _›).2.2;refine (s_l05Copy d f B A ss.length c ss _ ?_ ?_).mono ?_;exact hS1.below (hq.mono hB3);exact Nat.le_trans hB3 hq.size;rintro e w14 ⟨A4,c4,rfl,ho14,hb14⟩;have hqs14:=hq.size;have hbs14:=hb14.size;(try simp at hqs14);(try simp at hbs14);(have hos9:OwnS w14 w13.heap.size w14.heap.size A4 c4 ss:=(OwnS.of ho14 (Nat.le_refl _)).wide (by first|exact Nat.le_refl _|(simp;done)|omega) (Nat.le_refl _));(have hz8:w1.heap.size≤w13.heap.size:=(by omega));(have hz9:w13.heap.size≤w14.heap.size:=(by omega));obtain ⟨hcb14,hfb14⟩:=bcell hb14;(try (have hzl14:w1.heap.size<w14.heap.size:=(by omega)));(try (have hzm14:w13.heap.size<w14.heap.size:=(by omega)))))
   all_goals (go_wp2_with fail)
   all_goals (go_meet)
   all_goals (
    refine ⟨_,A3,A4,c3,c4,w13.heap.size,rfl,?_⟩
    refine open_and ?_ ⟨hz8,by first|(with_reducible exact hz9)|(simp [World.setCell];omega)|omega⟩
    first
     |((with_reducible refine leafON ?_ ?_ ?_ ?_ ?_);(first|exact bel);(focus ((repeat (first|(with_reducible exact hos8)|(with_reducible exact hos9)|(with_reducible refine OwnS.drew ?_)|(with_reducible refine OwnS.alloc ?_ _)|(with_reducible refine OwnS.below ?_ hb14)));(first|done|fail)));(focus ((repeat (first|(with_reducible exact hos8)|(with_reducible exact hos9)|(with_reducible refine OwnS.drew ?_)|(with_reducible refine OwnS.alloc ?_ _)|(with_reducible refine OwnS.below ?_ hb14)));(first|done|fail)));(first|rfl|(simp;first|done|fail));(first|omega|(simp;first|done|omega)))
     |((with_reducible apply leafO);(case hk=>(focus ((repeat (first|(with_reducible exact blk_new_at _ _ (by first|rfl|(simp;first|done|fail)))|(with_reducible refine blk_next ?_ hb14)|(with_reducible refine blk_next ?_ hb13)|(with_reducible refine blk_drew ?_)|(with_reducible refine blk_alloc ?_ _)));(first|done|fail))));(case h8=>(focus ((repeat (first|(with_reducible exact hos8)|(with_reducible exact hos9)|(with_reducible refine OwnS.drew ?_)|(with_reducible refine OwnS.alloc ?_ _)|(with_reducible refine OwnS.below ?_ hb14)));(first|done|fail))));(case h9=>(focus ((repeat (first|(with_reducible exact hos8)|(with_reducible exact hos9)|(with_reducible refine OwnS.drew ?_)|(with_reducible refine OwnS.alloc ?_ _)|(with_reducible refine OwnS.below ?_ hb14)));(first|done|fail))));(case hb=>exact bel);(case hg=>first|omega|(simp;first|done|omega))))
  obtain ⟨g9,A8,A9,c8,c9,q9,rfl,hk9,⟨ho8,ho9⟩,hg9,hb9,hq91,hq92⟩:=hcut
  obtain ⟨w25,hwc⟩:∃ Q9:World,Q9=wc:=⟨_,rfl⟩
  subst hwc
  clear qbc qcc qdc qec
  have hs9:=hb9.size
  have qha:=blk_next qka hb9
  have qia:=blk_next qga hb9
  have qfa:Below w.heap.size w w25:=qea.trans (hb9.mono hsB)
  have qma:=qfa.size
  clear hb9
  obtain ⟨qsa,qta,qua,qva,qwa,qxa,qya,qza,qab,qbb,qcb⟩:=blk10 hk9
  go_wp2_with fail
  clear qsa qta qua qva qwa qxa qya qza qab qbb qcb
  refine (s_WorkshopOk d f ss d f ss [] [] [] m w25.heap.size A8 A9 none none none c8 c9 0 0 0 w25 (rd_open (ho8.rd hss.1 hss.2) (ho9.rd hss.1 hss.2)) (Nat.le_refl _)).mono ?_
  rw [HW1.out]
  rintro e w2 ⟨rfl,qba⟩
  have qgc:=blk_next qha qba
  have qaa:=blk_next qia qba
  have qyb:=blk_next hk9 qba
  have qna:=ho8.below qba
  have qoa:=ho9.below qba
  have qja:Below w.heap.size w w2:=qfa.trans (qba.mono qma)
  have qpa:=qja.size
  have qac:w25.heap.size≤w2.heap.size:=qba.size
  clear qha qia hk9 ho8 ho9 qfa qma qba
  obtain ⟨qsa,qta,qua,qva,qwa,qxa,qya,qza,qab,qbb,qcb⟩:=blk10 qyb
  obtain ⟨qdb,qeb,qfb,qgb,qhb,qib,qjb,qkb,qlb,qmb,qnb⟩:=blk10 qaa
  have qob:=(blk_cells qaa 0).2
  have qpb:=(blk_cells qaa 1).2
  have qqb:=(blk_cells qaa 2).2
  have qrb:=(blk_cells qaa 3).2
  have qsb:=(blk_cells qaa 4).2
  have qtb:=(blk_cells qaa 5).2
  have qub:=(blk_cells qaa 6).2
  have qvb:=(blk_cells qaa 7).2
  have qwb:=(blk_cells qaa 8).2
  have qxb:=(blk_cells qaa 9).2
  go_wp2
  have qfc:=boxAt_of qaa
  refine bodyPost_ret (v:=.tuple #[.agg #[.int .i64 d,.int .i64 f,.slice A8 ss.length c8,.int .i64 d,.int .i64 f,.slice A9 ss.length c9,.slice none 0 0,.slice none 0 0,.slice none 0 0,.int .i64 m],.bool true]) (by simp [results,Tryz.results127,go_sem, *]) rfl ?_
  clear qsa qta qua qva qwa qxa qya qza qab qbb qcb qdb qeb qfb qgb qhb qib qjb qkb qlb qmb qnb qob qpb qqb qrb qsb qtb qub qvb qwb qxb
  obtain ⟨wE,heE⟩:∃ x,x=((((((((((w2.setCell ⟨w.heap.size+1,0,none⟩ (.int .i64 d)).setCell ⟨w.heap.size+1,1,none⟩ (.int .i64 f)).setCell ⟨w.heap.size+1,2,none⟩ (.slice A8 ss.length c8)).setCell ⟨w.heap.size+1,3,none⟩ (.int .i64 d)).setCell ⟨w.heap.size+1,4,none⟩ (.int .i64 f)).setCell ⟨w.heap.size+1,5,none⟩ (.slice A9 ss.length c9)).setCell ⟨w.heap.size+1,6,none⟩ (.slice none 0 0)).setCell ⟨w.heap.size+1,7,none⟩ (.slice none 0 0)).setCell ⟨w.heap.size+1,8,none⟩ (.slice none 0 0)).setCell ⟨w.heap.size+1,9,none⟩ (.int .i64 m)):=⟨_,rfl⟩
  have hBX:Boxy w2 wE:=by rw [heE];exact boxy
  have hBW:Below w.heap.size w wE:=by rw [heE];exact bel
  have hsE:wE.heap.size=w2.heap.size:=by rw [heE];simp [World.setCell]
  rw [← heE]
  clear heE
  have hOW:=own_open (d:=d) (f:=f) (qna.boxy hBX) (qoa.boxy hBX) hq91 (by omega)
  exact uwb_cast HR4.out ⟨A8,c8,A9,c9,none,0,none,0,none,0,rfl,hOW.wide (by omega) (by omega),hBW⟩
def sampleSS:List ByteArray:=[⟨#[100,100,100,102,102,102,102]⟩,⟨#[100,102,100,102,102,100,102]⟩,⟨#[100,102,100,102,102,100,102]⟩,⟨#[102,102,100,100,102,102,100]⟩,⟨#[100,100,100,102,102,102,102]⟩]
theorem sample_ok:OkS sampleSS 1048576:=⟨by decide,fun s hs=>by
 simp [sampleSS] at hs
 rcases hs with rfl|rfl|rfl|rfl <;> decide⟩
theorem s_SampleCard (w:World) :
  Calls Tryz.prog 128 #[] w fun e w'=>∃ A c,e=.returned (.agg #[.int .i64 3,.int .i64 4,.slice A sampleSS.length c])∧OwnS w' w.heap.size w'.heap.size A c sampleSS∧Below w.heap.size w w':=by
 go_enter Tryz.func128,Tryz.ntmps128
 go_wp2
 refine bodyPost_ret (v:=.agg #[.int .i64 3,.int .i64 4,.slice (some ⟨w.heap.size+1,0,none⟩) 5 5]) (by simp [results,Tryz.results128,go_sem, *]) rfl ?_
 refine ⟨some ⟨w.heap.size+1,0,none⟩,5,rfl,OwnS.of ?_ (Nat.le_refl _),bel⟩
 have h:=World.ownsRow_lit (w.alloc (.cells #[.int .i64 3,.int .i64 4,.slice (some ⟨w.heap.size+1,0,none⟩) 5 5] 26)) (base:=w.heap.size) (e:=9) (size:=1) #[.string ⟨#[100,100,100,102,102,102,102]⟩,.string ⟨#[100,102,100,102,102,100,102]⟩,.string ⟨#[100,102,100,102,102,100,102]⟩,.string ⟨#[102,102,100,100,102,102,100]⟩,.string ⟨#[100,100,100,102,102,102,102]⟩] 5 (by simp) (by unfold maxLen;omega) rfl
 have hz:(w.alloc (.cells #[.int .i64 3,.int .i64 4,.slice (some ⟨w.heap.size+1,0,none⟩) 5 5] 26)).heap.size=w.heap.size+1:=by simp
 rw [hz] at h
 exact h
theorem s_SampleWorkshop (w:World) :
  Calls Tryz.prog 77 #[] w (UWork (openW 3 4 sampleSS 100).1.D.d1 (openW 3 4 sampleSS 100).1.D.f1 (openW 3 4 sampleSS 100).1.D.ss1 (openW 3 4 sampleSS 100).1.D.d2 (openW 3 4 sampleSS 100).1.D.f2 (openW 3 4 sampleSS 100).1.D.ss2 (openW 3 4 sampleSS 100).1.D.st (openW 3 4 sampleSS 100).1.P (openW 3 4 sampleSS 100).1.pp (openW 3 4 sampleSS 100).1.m w):=by
 have hcall:=fun (W:World) (A:Option Addr) (c:Nat) (h1:Strs W W.heap.size A sampleSS.length sampleSS)=>s_OpenWorkshop 3 4 100 W.heap.size A c sampleSS W h1 (Nat.le_refl _) (sample_ok.more (by omega))
 have hok:=sample_ok
 generalize openW 3 4 sampleSS 100=R at *
 obtain ⟨⟨⟨d1r,f1r,ss1r,d2r,f2r,ss2r,str⟩,Pr,ppr,mr⟩,rb⟩:=R
 simp only at hcall ⊢
 have hsc:=fun (W:World)=>s_SampleCard W
 generalize sampleSS=sS at *
 have HCALL:=hide hcall
 have HSC:=hide hsc
 clear hcall hsc
 go_enter Tryz.func77,Tryz.ntmps77
 go_wp2_with fail
 obtain ⟨w1,qca⟩:∃ x,x=(w.alloc (.cells #[.int .i64 0,.int .i64 0,.slice none 0 0,.int .i64 0,.int .i64 0,.slice none 0 0,.slice none 0 0,.slice none 0 0,.slice none 0 0,.int .i64 0] 33)):=⟨_,rfl⟩
 have qga:w1.heap[w.heap.size]?=some (.cells #[.int .i64 0,.int .i64 0,.slice none 0 0,.int .i64 0,.int .i64 0,.slice none 0 0,.slice none 0 0,.slice none 0 0,.slice none 0 0,.int .i64 0] 33 (0,0)):=by rw [qca];exact (blk_new_at w (.cells #[.int .i64 0,.int .i64 0,.slice none 0 0,.int .i64 0,.int .i64 0,.slice none 0 0,.slice none 0 0,.slice none 0 0,.slice none 0 0,.int .i64 0] 33) (k:=w.heap.size) (by simp [World.setCell]))
 have qea:Below w.heap.size w w1:=by rw [qca];exact bel
 have qla:=qea.size
 have qzb:w.heap.size≤w1.heap.size:=by rw [qca];simp [World.setCell];try omega
 rw [← qca]
 clear qca
 refine (unhide HSC w1).mono ?_
 rintro e w2 ⟨As,cs,rfl,hon,qba⟩
 have qaa:=blk_next qga qba
 have qja:Below w.heap.size w w2:=qea.trans (qba.mono qla)
 have qpa:=qja.size
 have qac:w1.heap.size≤w2.heap.size:=qba.size
 clear qga qea qla qba
 have qra:=hon
 clear hon
 go_wp2_with fail
 refine (unhide HCALL w2 As cs (qra.rd (by have:=hok.1;omega) hok.2)).mono ?_
 rintro e w3 ⟨G1,q1,G2,q2,G3,q3,G4,q4,G5,q5,rfl,hon2,qqa⟩
 have qda:=blk_next qaa qqa
 have qhc:=qra.below qqa
 have qjc:Below w.heap.size w w3:=qja.trans (qqa.mono qpa)
 have qkc:=qjc.size
 have qlc:w2.heap.size≤w3.heap.size:=qqa.size
 clear qaa qra qja qpa qqa
 have qic:=hon2
 clear hon2
 clear qhc
 obtain ⟨qdb,qeb,qfb,qgb,qhb,qib,qjb,qkb,qlb,qmb,qnb⟩:=blk10 qda
 have qob:=(blk_cells qda 0).2
 have qpb:=(blk_cells qda 1).2
 have qqb:=(blk_cells qda 2).2
 have qrb:=(blk_cells qda 3).2
 have qsb:=(blk_cells qda 4).2
 have qtb:=(blk_cells qda 5).2
 have qub:=(blk_cells qda 6).2
 have qvb:=(blk_cells qda 7).2
 have qwb:=(blk_cells qda 8).2
 have qxb:=(blk_cells qda 9).2
 go_wp2
 have qfc:=boxAt_of qda
 refine bodyPost_ret (v:=.agg #[.int .i64 d1r,.int .i64 f1r,.slice G1 ss1r.length q1,.int .i64 d2r,.int .i64 f2r,.slice G2 ss2r.length q2,.slice G3 str.length q3,.slice G4 Pr.length q4,.slice G5 ppr.length q5,.int .i64 mr]) (by simp [results,Tryz.results77,go_sem, *]) rfl ?_
 clear qdb qeb qfb qgb qhb qib qjb qkb qlb qmb qnb qob qpb qqb qrb qsb qtb qub qvb qwb qxb
 obtain ⟨wD,heD⟩:∃ x,x=((((((((((w3.setCell ⟨w.heap.size,0,none⟩ (.int .i64 d1r)).setCell ⟨w.heap.size,1,none⟩ (.int .i64 f1r)).setCell ⟨w.heap.size,2,none⟩ (.slice G1 ss1r.length q1)).setCell ⟨w.heap.size,3,none⟩ (.int .i64 d2r)).setCell ⟨w.heap.size,4,none⟩ (.int .i64 f2r)).setCell ⟨w.heap.size,5,none⟩ (.slice G2 ss2r.length q2)).setCell ⟨w.heap.size,6,none⟩ (.slice G3 str.length q3)).setCell ⟨w.heap.size,7,none⟩ (.slice G4 Pr.length q4)).setCell ⟨w.heap.size,8,none⟩ (.slice G5 ppr.length q5)).setCell ⟨w.heap.size,9,none⟩ (.int .i64 mr)):=⟨_,rfl⟩
 have hBX1:Boxy w3 wD:=by rw [heD];exact boxy
 have hBW1:Below w.heap.size w wD:=by rw [heD];exact bel
 have hsE1:wD.heap.size=w3.heap.size:=by rw [heD];simp [World.setCell]
 rw [← heD]
 clear heD
 have hBX:Boxy w3 (wD.alloc (.cells #[.int .i64 d1r,.int .i64 f1r,.slice G1 ss1r.length q1,.int .i64 d2r,.int .i64 f2r,.slice G2 ss2r.length q2,.slice G3 str.length q3,.slice G4 Pr.length q4,.slice G5 ppr.length q5,.int .i64 mr] 33)):=hBX1.alloc _
 have hBW:Below w.heap.size w (wD.alloc (.cells #[.int .i64 d1r,.int .i64 f1r,.slice G1 ss1r.length q1,.int .i64 d2r,.int .i64 f2r,.slice G2 ss2r.length q2,.slice G3 str.length q3,.slice G4 Pr.length q4,.slice G5 ppr.length q5,.int .i64 mr] 33)):=hBW1.alloc (by omega) _
 have hsE:w3.heap.size≤(wD.alloc (.cells #[.int .i64 d1r,.int .i64 f1r,.slice G1 ss1r.length q1,.int .i64 d2r,.int .i64 f2r,.slice G2 ss2r.length q2,.slice G3 str.length q3,.slice G4 Pr.length q4,.slice G5 ppr.length q5,.int .i64 mr] 33)).heap.size:=(by first|omega|(simp;omega))
 generalize (wD.alloc (.cells #[.int .i64 d1r,.int .i64 f1r,.slice G1 ss1r.length q1,.int .i64 d2r,.int .i64 f2r,.slice G2 ss2r.length q2,.slice G3 str.length q3,.slice G4 Pr.length q4,.slice G5 ppr.length q5,.int .i64 mr] 33))=wE at *
 have hOW:OwnW wE w.heap.size wE.heap.size G1 q1 G2 q2 G3 q3 G4 q4 G5 q5 (PDraft.mk d1r f1r ss1r d2r f2r ss2r str) Pr ppr:=(qic.boxy hBX).wide (by omega) (by omega)
 exact ⟨G1,q1,G2,q2,G3,q3,G4,q4,G5,q5,rfl,hOW,hBW⟩
end Go.Proofs.YtlimlolciekimaaGreatDoor
