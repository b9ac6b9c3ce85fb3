/- Contracts of the program's and the reference's functions (LawKit, LawKit2, Card4, Card5, Rows1, Lift0, Lift, LawBox, RowBox, LawStep, Rows2, LawKit3, Frame, UCard, SzKit, RowStep, LawPaper, RowPaper, Mem3). -/
import Derived.Deep.RegionLaw
import Derived.Deep.Slices
import Derived.HandedShaped
import Derived.Laws.OwnMore
import Derived.Lib.SmallJoins
import Derived.OpenShut
import Derived.ProofKit
import Derived.SliceStrings
import Derived.WalkKit
import Derived.WalkSmall
import Derived.Test.YtlimlolciekimaaGreatDoorRows
import Derived.Test.YtlimlolciekimaaGreatDoorQUa
namespace Go.Proofs.YtlimlolciekimaaGreatDoor
set_option maxHeartbeats 1600000
open Go.ChangeShapes Go.WideShapes Go.ChangeAt Go.RowKit
set_option linter.unusedVariables false
set_option maxRecDepth 10000
theorem blk_next {g:Nat} {w w':World} {o:Obj} (h:w.heap[g]?=some o) (hb:Below w.heap.size w w'):w'.heap[g]?=some o:=blk_below h hb (blk_lt h)
theorem blk3 {w:World} {g:Nat} {t:TypeId} {a b c:Value} (h:w.heap[g]?=some (.cells #[a,b,c] t (0,0))) :
  w.cell? ⟨g,0,none⟩=some a∧w.cell? ⟨g,1,none⟩=some b∧w.cell? ⟨g,2,none⟩=some c∧g<w.heap.size :=
 ⟨(blk_cells h 0).1,(blk_cells h 1).1,(blk_cells h 2).1,blk_lt h⟩
theorem own_base {w:World} {base base':Nat} {e:TypeId} {size:Nat} {v:Value} {n:Nat} {xs:List Value} (h:w.ownsRow base e size v n xs) (hb:base'≤base):w.ownsRow base' e size v n xs :=
 own_up h (Upper.refl _ _) hb
theorem blk_new_at (W:World) (o:Obj) {k:Nat} (hk:W.heap.size=k):(W.alloc o).heap[k]?=some o:=by subst hk;exact blk_new W o
theorem hkq {w e:World} {g:Nat} {o:Obj} (he:w=e) (h:e.heap[g]?=some o):w.heap[g]?=some o:=he ▸ h
theorem bnk {w:World} {o:Obj} (k:Nat) (h:w.heap.size=k:=by simp [World.setCell]):(w.alloc o).heap[k]?=some o:=blk_new_at w o h
theorem own_setvar {w:World} {base g i:Nat} {e t:TypeId} {v:Value} {n:Nat} {xs:List Value} {cs:Array Value} (h:w.ownsRow base e 1 v n xs) (hk:w.heap[g]?=some (.cells cs t (0,0))) (hne:e≠t) (u:Value) :
  (w.setCell ⟨g,i,none⟩ u).ownsRow base e 1 v n xs:=by
 have hg:w.grownBy (w.setCell ⟨g,i,none⟩ u) (some g):=only_setCell (World.grownBy.refl w _) (.inl rfl) u
 refine h.kept hg ?_
 rcases h.2 with ⟨rfl,_⟩|⟨g',cap,cur,rfl,_,hh,_⟩
 ·exact .inl rfl
 ·refine .inr ?_
  intro he
  have:g'=g:=by simpa [Value.ownBlock] using he
  subst this
  rw [hk] at hh
  injection hh with hh
  injection hh with _ h2
  exact hne h2.symm
theorem blk3_set {w:World} {g:Nat} {t:TypeId} {z0 z1 z2:Value} (h:w.heap[g]?=some (.cells #[z0,z1,z2] t (0,0))) (a b c:Value) :
  (((w.setCell ⟨g,0,none⟩ a).setCell ⟨g,1,none⟩ b).setCell ⟨g,2,none⟩ c).heap[g]?=some (.cells #[a,b,c] t (0,0)):=by
 have:=blk_set (blk_set (blk_set h 0 a) 1 b) 2 c
 simpa using this
theorem own3_set {w:World} {base g:Nat} {e t:TypeId} {v:Value} {n:Nat} {xs:List Value} {z0 z1 z2:Value} (h:w.ownsRow base e 1 v n xs) (hk:w.heap[g]?=some (.cells #[z0,z1,z2] t (0,0))) (hne:e≠t) (a b c:Value) :
  (((w.setCell ⟨g,0,none⟩ a).setCell ⟨g,1,none⟩ b).setCell ⟨g,2,none⟩ c).ownsRow base e 1 v n xs :=
 own_setvar (own_setvar (own_setvar h hk hne a) (blk_set hk 0 a) hne b) (blk_set (blk_set hk 0 a) 1 b) hne c
theorem blk4 {w:World} {g:Nat} {t:TypeId} {a0 a1 a2 a3:Value} (h:w.heap[g]?=some (.cells #[a0,a1,a2,a3] t (0,0))) :
  w.cell? ⟨g,0,none⟩=some a0∧w.cell? ⟨g,1,none⟩=some a1∧w.cell? ⟨g,2,none⟩=some a2∧w.cell? ⟨g,3,none⟩=some a3∧g<w.heap.size :=
 ⟨(blk_cells h 0).1,(blk_cells h 1).1,(blk_cells h 2).1,(blk_cells h 3).1,blk_lt h⟩
theorem blk7 {w:World} {g:Nat} {t:TypeId} {a0 a1 a2 a3 a4 a5 a6:Value} (h:w.heap[g]?=some (.cells #[a0,a1,a2,a3,a4,a5,a6] t (0,0))) :
  w.cell? ⟨g,0,none⟩=some a0∧w.cell? ⟨g,1,none⟩=some a1∧w.cell? ⟨g,2,none⟩=some a2∧w.cell? ⟨g,3,none⟩=some a3∧w.cell? ⟨g,4,none⟩=some a4∧w.cell? ⟨g,5,none⟩=some a5∧w.cell? ⟨g,6,none⟩=some a6∧g<w.heap.size :=
 ⟨(blk_cells h 0).1,(blk_cells h 1).1,(blk_cells h 2).1,(blk_cells h 3).1,(blk_cells h 4).1,(blk_cells h 5).1,(blk_cells h 6).1,blk_lt h⟩
theorem blk10 {w:World} {g:Nat} {t:TypeId} {a0 a1 a2 a3 a4 a5 a6 a7 a8 a9:Value} (h:w.heap[g]?=some (.cells #[a0,a1,a2,a3,a4,a5,a6,a7,a8,a9] t (0,0))) :
  w.cell? ⟨g,0,none⟩=some a0∧w.cell? ⟨g,1,none⟩=some a1∧w.cell? ⟨g,2,none⟩=some a2∧w.cell? ⟨g,3,none⟩=some a3∧w.cell? ⟨g,4,none⟩=some a4∧w.cell? ⟨g,5,none⟩=some a5∧w.cell? ⟨g,6,none⟩=some a6∧w.cell? ⟨g,7,none⟩=some a7∧w.cell? ⟨g,8,none⟩=some a8∧w.cell? ⟨g,9,none⟩=some a9∧g<w.heap.size :=
 ⟨(blk_cells h 0).1,(blk_cells h 1).1,(blk_cells h 2).1,(blk_cells h 3).1,(blk_cells h 4).1,(blk_cells h 5).1,(blk_cells h 6).1,(blk_cells h 7).1,(blk_cells h 8).1,(blk_cells h 9).1,blk_lt h⟩
theorem s_WithStrip (d f:Int) (B:Nat) (A:Option Addr) (n c:Nat) (ss:List ByteArray) (k:Int) (s:ByteArray) (w:World) (hS:Strs w B A n ss) (hB:B≤w.heap.size) (hs:s.size≤16777216) :
  Calls Tryz.prog 248 #[.agg #[.int .i64 d,.int .i64 f,.slice A n c],.int .i64 k,.string s] w (FreshCardB w.heap.size d f (putAt d f ss k s).1 (putAt d f ss k s).2 w):=by
 have hn:=hS.nb
 have hl:=hS.len
 have hS2:=(hS.alloc hB (.cells #[.int .i64 d,.int .i64 f,.slice A n c] 26)).alloc (by simp;omega) (.cells #[.int .i64 0,.int .i64 0,.slice none 0 0] 26)
 have HL:=Lib.hid hl
 cases hh:(cardOk d f ss&&inB k 0 ((n:Int) - 1))
 ·have HP:Hid (putAt d f ss k s=(ss,false)):=by unfold Hid putAt;rw [hl,hh];rfl
  clear hl
  cases hc0:cardOk d f ss
  ·clear hh
   go_enter Tryz.func248,Tryz.ntmps248
   go_wp2_with (first|(go_at_call 181;refine (s_l05Copy _ _ B _ _ _ ss _ hS2 (by simp;omega)).mono ?_;rintro e w1 ⟨A1,c1,rfl,ho1,hb1⟩;obtain ⟨hcb,hfb⟩:=bcell hb1;obtain ⟨qaa,qba,qca,qda⟩:=zs2 (show w.heap.size+1<w1.heap.size by have hzz:=hb1.size;(try simp at hzz);omega);have hS3:=hS2.below (hb1.mono (by simp;omega)))|(go_at_call 97;refine (s_CardOk _ _ _ _ _ ss _ ((hS3.alloc (by omega) _).more (by simp;omega))).mono ?_;rintro e w2 ⟨rfl,hb2⟩;obtain ⟨hcb2,hfb2⟩:=bcell hb2;obtain ⟨qea,qfa,qga,qha⟩:=zs2 (show w.heap.size+1<w2.heap.size by have hzz:=hb2.size;(try simp at hzz);omega))|(go_at_call 95;refine (s_l01In _ _ _ _).mono ?_;rintro e w' ⟨rfl,rfl⟩))
   refine bodyPost_ret (v:=.tuple #[.agg #[.int .i64 d,.int .i64 f,.slice A1 ss.length c1],.bool false]) (by simp [results,Tryz.results248,go_sem, *]) rfl ?_
   rw [HP.out]
   exact ⟨A1,c1,rfl,own_up ho1 upr (by first|exact Nat.le_refl _|(simp;done)|omega|(simp;omega)|exact (‹_∧_∧Below _ _ _›).2.2.size),bel⟩
  ·have hk:inB k 0 ((n:Int) - 1)=false:=by simpa [hc0] using hh
   clear hh
   go_enter Tryz.func248,Tryz.ntmps248
   go_wp2_with (first|(go_at_call 181;refine (s_l05Copy _ _ B _ _ _ ss _ hS2 (by simp;omega)).mono ?_;rintro e w1 ⟨A1,c1,rfl,ho1,hb1⟩;obtain ⟨hcb,hfb⟩:=bcell hb1;obtain ⟨qaa,qba,qca,qda⟩:=zs2 (show w.heap.size+1<w1.heap.size by have hzz:=hb1.size;(try simp at hzz);omega);have hS3:=hS2.below (hb1.mono (by simp;omega)))|(go_at_call 97;refine (s_CardOk _ _ _ _ _ ss _ ((hS3.alloc (by omega) _).more (by simp;omega))).mono ?_;rintro e w2 ⟨rfl,hb2⟩;obtain ⟨hcb2,hfb2⟩:=bcell hb2;obtain ⟨qea,qfa,qga,qha⟩:=zs2 (show w.heap.size+1<w2.heap.size by have hzz:=hb2.size;(try simp at hzz);omega))|(go_at_call 95;refine (s_l01In _ _ _ _).mono ?_;rintro e w' ⟨rfl,rfl⟩))
   refine bodyPost_ret (v:=.tuple #[.agg #[.int .i64 d,.int .i64 f,.slice A1 ss.length c1],.bool false]) (by simp [results,Tryz.results248,go_sem, *]) rfl ?_
   rw [HP.out]
   exact ⟨A1,c1,rfl,own_up ho1 upr (by first|exact Nat.le_refl _|(simp;done)|omega|(simp;omega)|exact (‹_∧_∧Below _ _ _›).2.2.size),bel⟩
 ·obtain ⟨hck,hk⟩:cardOk d f ss=true∧inB k 0 ((n:Int) - 1)=true:=by simpa using hh
  obtain ⟨hk0,hk1⟩:=inB_iff.1 hk
  obtain ⟨K,rfl⟩:=Int.eq_ofNat_of_zero_le hk0
  have hKn:K<n:=by omega
  have hsb:∀ x∈ss.set K s,x.size≤16777216:=by
   intro x hx
   rcases List.mem_or_eq_of_mem_set hx with h|h
   ·exact hS.sb x h
   ·rw [h];exact hs
  have HPY:Hid (cardOk d f (ss.set K s)=true→putAt d f ss K s=(ss.set K s,true)):=by
   intro h;unfold putAt;rw [hl,hh];simp [h]
  have HPN:Hid (cardOk d f (ss.set K s)=false→putAt d f ss K s=(ss,false)):=by
   intro h;unfold putAt;rw [hl,hh];simp [h]
  clear hl hh
  have tok1:True:=trivial
  go_enter Tryz.func248,Tryz.ntmps248
  go_wp2_with (first|(go_at_call 181;refine (s_l05Copy _ _ B _ _ _ ss _ hS2 (by simp;omega)).mono ?_;rintro e w1 ⟨A1,c1,rfl,ho1,hb1⟩;obtain ⟨hcb,hfb⟩:=bcell hb1;obtain ⟨qaa,qba,qca,qda⟩:=zs2 (show w.heap.size+1<w1.heap.size by have hzz:=hb1.size;(try simp at hzz);omega);have hS3:=hS2.below (hb1.mono (by simp;omega));have hKl:K<ss.length:=(by have:=HL.out;omega);obtain ⟨g,cap,hv,hbg,hglt⟩:=ho1.form (by omega);(have hA:A1=some ⟨g,0,none⟩:=(by injection hv));subst hA;clear hv;have qua:w.heap.size+2≤g:=(by have hzz:=hbg;(try simp at hzz);omega);have qia:g≠w.heap.size:=(by have hzz:=hbg;(try simp at hzz);omega);have qoa:=Ne.symm qia;have qja:g≠w.heap.size+1:=(by have hzz:=hbg;(try simp at hzz);omega);have qpa:=Ne.symm qja)|(go_at_call 97;have _t:=tok1;refine (s_CardOk _ _ _ _ _ ss _ ((hS3.alloc (by omega) _).more (by simp;omega))).mono ?_;rintro e w2 ⟨rfl,hb2⟩;obtain ⟨hcb2,hfb2⟩:=bcell hb2;obtain ⟨qea,qfa,qga,qha⟩:=zs2 (show w.heap.size+1<w2.heap.size by have hzz:=hb2.size;(try simp at hzz);omega);have ho2:=own_below (ho1.alloc _) hb2;obtain ⟨u1,hc1⟩:=own_cell ho1 (j:=K) hKl;have hf1:=ho1.frozenAt K;have hgle:g≤w1.heap.size:=Nat.le_of_lt hglt;have hzz2:w1.heap.size<w2.heap.size:=(by have hq:=hb2.size;simp at hq;omega);clear _t tok1)|(go_at_call 95;refine (s_l01In _ _ _ _).mono ?_;rintro e w' ⟨rfl,rfl⟩))
  have ho3:=(ho2.stored K (.string s)).1
  rw [set_map] at ho3
  have hsz3:(w2.setCell ⟨g,K,none⟩ (.string s)).heap.size=w2.heap.size:=by simp [World.setCell]
  have hT3:Strs (w2.setCell ⟨g,K,none⟩ (.string s)) w2.heap.size (some ⟨g,0,none⟩) ss.length (ss.set K s):=by
   have h:=strs_of_own ho3 (by have:=HL.out;omega) hsb
   rw [hsz3] at h;exact h
  have hS4:Strs (w2.setCell ⟨g,K,none⟩ (.string s)) B A n ss:=((hS3.alloc (by omega) _).below (hb2.mono (by simp;omega))).setCell (by have:=hb1.size;simp at this;show B≤g;simp at hbg;omega) _
  have hlen:(ss.set K s).length=ss.length:=List.length_set
  have HLEN:=Lib.hid hlen
  clear hlen hsz3
  cases hcs:cardOk d f (ss.set K s)
  ·have HP:=Lib.hid (HPN.out hcs)
   refine (s_CardOk _ _ _ _ _ (ss.set K s) _ (hT3.more (by simp [World.setCell]))).mono ?_
   rintro e w3 ⟨rfl,hb4⟩
   obtain ⟨hcb4,hfb4⟩:=bcell hb4
   obtain ⟨qka,qla,qma,qna⟩:=zs2 (show w.heap.size+1<w3.heap.size by have hzz:=hb4.size;(try simp at hzz);omega)
   go_wp2_with (first|(go_at_call 181;refine (s_l05Copy _ _ B _ _ _ ss _ (hS4.below (hb4.mono (by simp [World.setCell];omega))) (by omega)).mono ?_;rintro e w4 ⟨A4,c4,rfl,ho5,hb5⟩;obtain ⟨hcb5,hfb5⟩:=bcell hb5;obtain ⟨qqa,qra,qsa,qta⟩:=zs2 (show w.heap.size+1<w4.heap.size by have hzz:=hb5.size;(try simp at hzz);omega)))
   refine bodyPost_ret (v:=.tuple #[.agg #[.int .i64 d,.int .i64 f,.slice A4 ss.length c4],.bool false]) (by simp [results,Tryz.results248,go_sem, *]) rfl ?_
   rw [HP.out]
   exact ⟨A4,c4,rfl,own_up ho5 upr (by first|exact Nat.le_refl _|(simp;done)|omega|(simp;omega)|exact (‹_∧_∧Below _ _ _›).2.2.size),bel⟩
  ·have HP:=Lib.hid (HPY.out hcs)
   refine (s_CardOk _ _ _ _ _ (ss.set K s) _ (hT3.more (by simp [World.setCell]))).mono ?_
   rintro e w3 ⟨rfl,hb4⟩
   obtain ⟨hcb4,hfb4⟩:=bcell hb4
   obtain ⟨qka,qla,qma,qna⟩:=zs2 (show w.heap.size+1<w3.heap.size by have hzz:=hb4.size;(try simp at hzz);omega)
   have ho4:=own_below ho3 hb4
   go_wp2
   refine bodyPost_ret (v:=.tuple #[.agg #[.int .i64 d,.int .i64 f,.slice (some ⟨g,0,none⟩) ss.length c1],.bool true]) (by simp [results,Tryz.results248,go_sem, *]) rfl ?_
   rw [HP.out]
   unfold FreshCardB
   dsimp only
   rw [HLEN.out]
   exact ⟨_,c1,rfl,own_up ho4 upr (by first|exact Nat.le_refl _|(simp;done)|omega|(simp;omega)|exact (‹_∧_∧Below _ _ _›).2.2.size),bel⟩
def mirrorRes (d f:Int) (ss:List ByteArray):Int×Int×List ByteArray:=if cardOk d f ss=true then (d,f,ss.reverse) else (0,0,[])
section
variable {α:Type} {f:α→List Value} {k:Nat}
theorem flat_len (hf:∀ x,(f x).length=k) (l:List α):(l.flatMap f).length=l.length * k:=by
 induction l with
 |nil=>simp
 |cons x l ih=>rw [List.flatMap_cons,List.length_append,hf,ih,List.length_cons,Nat.add_mul,Nat.one_mul,Nat.add_comm]
theorem flat_get (hf:∀ x,(f x).length=k) (l:List α) (i j:Nat) (hi:i<l.length) (hj:j<k):(l.flatMap f)[i * k+j]?=(f l[i])[j]?:=by
 induction l generalizing i with
 |nil=>simp at hi
 |cons x l ih =>
  rw [List.flatMap_cons]
  cases i with
  |zero=>rw [List.getElem?_append_left (by rw [hf];omega)];simp
  |succ i =>
   rw [List.getElem?_append_right (by rw [hf,Nat.add_mul];omega),hf]
   rw [show (i+1) * k+j - k=i * k+j by rw [Nat.add_mul];omega]
   rw [ih i (by simpa using hi)];simp
theorem flat_take (hf:∀ x,(f x).length=k) (l:List α) (i:Nat):(l.flatMap f).take (i * k)=(l.take i).flatMap f:=by
 induction l generalizing i with
 |nil=>simp
 |cons x l ih =>
  cases i with
  |zero=>simp
  |succ i =>
   rw [List.flatMap_cons,List.take_succ_cons,List.flatMap_cons,List.take_append,hf,List.take_of_length_le (by rw [hf,Nat.add_mul];omega)]
   rw [show (i+1) * k - k=i * k by rw [Nat.add_mul];omega,ih]
theorem flat_snoc (l:List α) (x:α):(l++[x]).flatMap f=l.flatMap f++f x:=by simp
end
theorem add_next (a:Addr) (m j:Nat) (hj:0<j):a.add (m+j)=⟨(a.add m).block,(a.add m).off+j,none⟩:=by
 unfold Addr.add
 rw [if_neg (by omega)]
 by_cases h:m=0
 ·subst h;simp
 ·rw [if_neg h];simp [Nat.add_assoc]
theorem keep_ofP {B:Nat} {a W:World} (h:Below B a W):(∀ p:Addr,p.block<B→W.cell? p=a.cell? p)∧(∀ p:Addr,p.block<B→W.frozen? p=a.frozen? p)∧Below B a W :=
 ⟨fun _ hb=>h.cell hb,fun _ hb=>h.frozen hb,h⟩
def reps (zs:List Value) (n:Nat):List Value:=(List.replicate n zs).flatten
structure PBox where
 (F L T:Int)
def boxCells (s:PBox):List Value:=[.int .i64 s.F,.int .i64 s.L,.int .i64 s.T]
structure Boxes (w:World) (B:Nat) (A:Option Addr) (n:Nat) (l:List PBox):Prop where
 rd:Reads w B 3 A n (l.flatMap boxCells)
 nb:n≤16777216
section
variable {w w':World} {B B' n:Nat} {A:Option Addr} {l:List PBox}
end
structure PStep where
 (K F L T I:Int)
 (b a:ByteArray)
def stepCells (s:PStep):List Value:=[.int .i64 s.K,.int .i64 s.F,.int .i64 s.L,.int .i64 s.T,.int .i64 s.I,.string s.b,.string s.a]
theorem stepCells_len (s:PStep):(stepCells s).length=7:=rfl
structure Steps (w:World) (B:Nat) (A:Option Addr) (n:Nat) (l:List PStep):Prop where
 rd:Reads w B 7 A n (l.flatMap stepCells)
 nb:n≤16777216
 sb:∀ s∈l,s.b.size≤16777216∧s.a.size≤16777216
section
variable {w w':World} {B B' n:Nat} {A:Option Addr} {l:List PStep}
theorem Steps.len (h:Steps w B A n l):l.length=n:=by
 have:=h.rd.1;rw [flat_len stepCells_len] at this;omega
theorem Steps.below (h:Steps w B A n l) (hb:Below B w w'):Steps w' B A n l:=⟨h.rd.below hb,h.nb,h.sb⟩
theorem Steps.alloc (h:Steps w B A n l) (hB:B≤w.heap.size) (o:Obj):Steps (w.alloc o) B A n l:=⟨h.rd.alloc hB o,h.nb,h.sb⟩
theorem Steps.at_ {k:Nat} (h:Steps w B A n l) (hk:k<n):∃ (hk':k<l.length) (ad:Addr),A=some ad∧ad.block<B∧w.cell? (ad.add (k * 7))=some (.int .i64 l[k].K)∧w.cell? ⟨(ad.add (k * 7)).block,(ad.add (k * 7)).off+1,none⟩=some (.int .i64 l[k].F)∧w.cell? ⟨(ad.add (k * 7)).block,(ad.add (k * 7)).off+2,none⟩=some (.int .i64 l[k].L)∧w.cell? ⟨(ad.add (k * 7)).block,(ad.add (k * 7)).off+3,none⟩=some (.int .i64 l[k].T)∧w.cell? ⟨(ad.add (k * 7)).block,(ad.add (k * 7)).off+4,none⟩=some (.int .i64 l[k].I)∧w.cell? ⟨(ad.add (k * 7)).block,(ad.add (k * 7)).off+5,none⟩=some (.string l[k].b)∧w.cell? ⟨(ad.add (k * 7)).block,(ad.add (k * 7)).off+6,none⟩=some (.string l[k].a)∧l[k].b.size≤16777216∧l[k].a.size≤16777216:=by
 have hl:=h.len
 have hk':k<l.length:=by omega
 obtain ⟨ad,e,hb,hc⟩:=h.rd.2 (by omega)
 have hg:=fun j hj=>flat_get stepCells_len l k j hk' hj
 have hs:=h.sb _ (List.getElem_mem hk')
 exact ⟨hk',ad,e,hb,hc _ _ (hg 0 (by omega)),by rw [← add_next _ _ _ (by omega)];exact hc _ _ (hg 1 (by omega)),by rw [← add_next _ _ _ (by omega)];exact hc _ _ (hg 2 (by omega)),by rw [← add_next _ _ _ (by omega)];exact hc _ _ (hg 3 (by omega)),by rw [← add_next _ _ _ (by omega)];exact hc _ _ (hg 4 (by omega)),by rw [← add_next _ _ _ (by omega)];exact hc _ _ (hg 5 (by omega)),by rw [← add_next _ _ _ (by omega)];exact hc _ _ (hg 6 (by omega)),hs.1,hs.2⟩
end
structure PPaper where
 (k g s:Int)
def paperCells (s:PPaper):List Value:=[.int .i64 s.k,.int .i64 s.g,.int .i64 s.s]
theorem paperCells_len (s:PPaper):(paperCells s).length=3:=rfl
structure Papers (w:World) (B:Nat) (A:Option Addr) (n:Nat) (l:List PPaper):Prop where
 rd:Reads w B 3 A n (l.flatMap paperCells)
 nb:n≤16777216
section
variable {w w':World} {B B' n:Nat} {A:Option Addr} {l:List PPaper}
theorem Papers.len (h:Papers w B A n l):l.length=n:=by
 have:=h.rd.1;rw [flat_len paperCells_len] at this;omega
theorem Papers.below (h:Papers w B A n l) (hb:Below B w w'):Papers w' B A n l:=⟨h.rd.below hb,h.nb⟩
theorem Papers.alloc (h:Papers w B A n l) (hB:B≤w.heap.size) (o:Obj):Papers (w.alloc o) B A n l:=⟨h.rd.alloc hB o,h.nb⟩
theorem Papers.at_ {k:Nat} (h:Papers w B A n l) (hk:k<n):∃ (hk':k<l.length) (ad:Addr),A=some ad∧ad.block<B∧w.cell? (ad.add (k * 3))=some (.int .i64 l[k].k)∧w.cell? ⟨(ad.add (k * 3)).block,(ad.add (k * 3)).off+1,none⟩=some (.int .i64 l[k].g)∧w.cell? ⟨(ad.add (k * 3)).block,(ad.add (k * 3)).off+2,none⟩=some (.int .i64 l[k].s):=by
 have hl:=h.len
 have hk':k<l.length:=by omega
 obtain ⟨ad,e,hb,hc⟩:=h.rd.2 (by omega)
 have hg:=fun j hj=>flat_get paperCells_len l k j hk' hj
 exact ⟨hk',ad,e,hb,hc _ _ (hg 0 (by omega)),by rw [← add_next _ _ _ (by omega)];exact hc _ _ (hg 1 (by omega)),by rw [← add_next _ _ _ (by omega)];exact hc _ _ (hg 2 (by omega))⟩
end
open Go.ChangeShapes Go.WideShapes Go.ChangeAt Go.RowKit
set_option linter.unusedVariables false
set_option maxRecDepth 10000
section
variable {H:Type} {enc:TypeId×Value→H} {P:Program}
theorem post_of_below {f:Func} {s:ChangeSpec} {apart fresh handsOn again:Bool} {W W':World} {args:Array Value} {v:Value} {ds gs:List (DataW H)} {before pa pv:List MemPlace}
  (hW:DataW.Whole enc P f.params.toList s.vars apart W args.toList ds gs before)
  (hres:∀ (b:Nat) (sp:Nat→Bool) (hd:Bool),DataW.TrodAll enc P W' b sp hd f.resultTypes.toList (v.resultList f.resultTypes.size) (s.fn H (ds++gs)).results [])
  (hargs:∀ sp:Nat→Bool,(∀ p∈before,sp p.block=true)→DataW.TrodAll enc P W' 0 sp true f.params.toList args.toList (s.fn H (ds++gs)).args pa)
  (hvars:∀ sp:Nat→Bool,(∀ p∈before,sp p.block=true)→DataW.TrodVars enc P W' sp s.vars (s.fn H (ds++gs)).vars pv)
  (hps:before=pa++pv) (hb:Below W.heap.size W W')
  (hok:∀ (j:Nat) (t:TypeId) (r:Value),f.resultTypes[j]?=some t→(v.resultList f.resultTypes.size)[j]?=some r→Value.okWide P W' .any 0 t r) :
  s.post enc P f apart fresh handsOn again W args v W':=by
 have hlt:∀ p∈before,p.block<W.heap.size:=fun p hp=>hW.lt p hp
 have hold:∀ p∈before,(fun b=>decide (b<W.heap.size)) p.block=true:=fun p hp=>by simpa using hlt p hp
 refine ⟨ds,gs,before,[],pa,pv,hW,hres _ _ _,hargs _ hold,hvars _ hold,World.keptBut_mono (fun p hp=>⟨hp,?_⟩) (hb.frame (·∈before)),fun _=>?_⟩
 ·rw [hps,List.mem_append] at hp
  exact Or.inr hp
 ·obtain ⟨_,_,_,_,_,hz,hn⟩:=hW
  refine ⟨hok,_,_,([]++pa)++pv,⟨[]++pa,pv,trodAll_append (hargs _ (fun _ _=>rfl)) (hres _ _ _),hvars _ (fun _ _=>rfl),rfl,?_,?_⟩,?_⟩
  ·intro b off hp
   have hin:MemPlace.cell b off∈before:=by rw [hps];simpa using hp
   rw [hb.frozen (hlt _ hin)]
   exact hz b off hin
  ·intro ha
   have:=hn ha
   rw [hps] at this
   simpa using this
  ·intro p hp _
   rw [hps]
   simpa using hp
end
theorem own0:ownKnob Tryz.prog.godebug=none:=by kernel_rfl
theorem laid0:laidOutB Tryz.prog=true:=by kernel_rfl
theorem trodAll_stays {H:Type} {enc:TypeId×Value→H} {W W':World} (hb:Below W.heap.size W W') {sp:Nat→Bool} :
  ∀ (ts:List TypeId) (vs:List Value) (ds:List (DataW H)) (ps:List MemPlace),(∀ t∈ts,Tryz.prog.readableRec t=true∧t<Tryz.prog.types.size) →
   DataW.TrodAll enc Tryz.prog W 0 (fun _=>true) true ts vs ds ps→(∀ p∈ps,p.block<W.heap.size)→(∀ p∈ps,sp p.block=true)→DataW.TrodAll enc Tryz.prog W' 0 sp true ts vs ds ps
 |[],vs,ds,ps,_,h,_,_=>by
  cases vs <;> cases ds <;> simp [DataW.TrodAll] at h ⊢
  exact h
 |t :: ts,vs,ds,ps,hr,h,hlt,hsp=>by
  obtain ⟨v,vs',d,ds',p,q,rfl,rfl,rfl,h1,h2⟩:=trodAll_cons h
  have hr0:=hr t (List.mem_cons_self)
  exact ⟨p,q,WideElems.Trod_stays laid0 hr0.1 hr0.2 h1 (fun x hx=>hb.same (hlt x (List.mem_append_left _ hx))) (fun x hx=>hsp x (List.mem_append_left _ hx)),
   trodAll_stays hb ts vs' ds' q (fun t' ht=>hr t' (List.mem_cons_of_mem _ ht)) h2 (fun x hx=>hlt x (List.mem_append_right _ hx)) (fun x hx=>hsp x (List.mem_append_right _ hx)),rfl⟩
theorem post_law {H:Type} {enc:TypeId×Value→H} {f:Func} {s:ChangeSpec} {W W':World} {args:Array Value} {ds gs:List (DataW H)} {before:List MemPlace}
  (hW:DataW.Whole enc Tryz.prog f.params.toList s.vars false W args.toList ds gs before) (hv:s.vars=[]) (hr:∀ t∈f.params.toList,Tryz.prog.readableRec t=true∧t<Tryz.prog.types.size)
  (hf:f.resultTypes=#[4]) (hfn:ds.length=f.params.size→s.fn H (ds++[])={ results:=[.lit (.bool true)],args:=ds }) (hb:Below W.heap.size W W') :
  s.post enc Tryz.prog f false true false false W args (.bool true) W':=by
 have hW':=hW
 obtain ⟨p,q,hA0,hV,hbe,hfz,hnd⟩:=hW
 rw [hv] at hV
 obtain ⟨rfl,rfl⟩:=trodVars_none hV
 simp only [List.append_nil] at hbe
 subst hbe
 have hlen:ds.length=f.params.size:=by
  have:∀ (ts:List TypeId) (vs:List Value) (ds:List (DataW H)) (ps:List MemPlace),DataW.TrodAll enc Tryz.prog W 0 (fun _=>true) true ts vs ds ps→ds.length=ts.length:=by
   intro ts
   induction ts with
   |nil=>intro vs ds ps h;cases vs <;> cases ds <;> simp [DataW.TrodAll] at h ⊢
   |cons t ts ih =>
    intro vs ds ps h
    obtain ⟨v,vs',d,ds',p,q,rfl,rfl,rfl,h1,h2⟩:=trodAll_cons h
    simp [ih _ _ _ h2]
  have h:=this _ _ _ _ hA0
  simpa using h
 have hfn':=hfn hlen
 refine post_of_below (pa:=before) (pv:=[]) (gs:=[]) hW' ?_ ?_ ?_ (by simp) hb ?_
 ·intro b sp hd
  rw [hfn',hf]
  exact trodAll_mk1 (shut_bool Tryz.underlying4 true)
 ·intro sp hsp
  rw [hfn']
  exact trodAll_stays hb _ _ _ _ hr hA0 (fun x hx=>hW'.lt x hx) hsp
 ·intro sp _
  rw [hv,hfn']
  rfl
 ·intro j t r ht hr2
  rw [hf] at ht hr2
  have hj:j=0:=by
   rcases Nat.eq_zero_or_pos j with h|h
   ·exact h
   ·rw [Array.getElem?_eq_none (by simp;omega)] at ht;cases ht
  subst hj
  simp at ht hr2
  subst ht
  have:r=.bool true:=by
   simp [Value.resultList] at hr2;exact hr2.symm
  subst this
  exact okWide_bool_mk Tryz.underlying4 true
open Go.ChangeShapes Go.WideShapes Go.ChangeAt Go.RowKit
set_option linter.unusedVariables false
set_option maxRecDepth 10000
def mkBox (k:Int):List Value:=[.int .i64 (k),.int .i64 (k+1),.int .i64 (k+1+1)]
def marksBox (k:Int) (n:Nat):List Value:=(List.range n).flatMap fun (i:Nat)=>mkBox (k+3 * (i:Int))
def szStep (b a:ByteArray) (left:Int):Int:=if left - b.size<0 then -1 else if left - b.size - a.size<0 then -1 else left - b.size - a.size
open Go.ChangeShapes Go.WideShapes Go.ChangeAt Go.RowKit Go.Deep
theorem reads_rows {α:Type} {f:α→List Value} {k:Nat} (hf:∀ x,(f x).length=k) (hk:0<k) {Q:α→Prop} {H:Type} {enc:TypeId×Value→H} {P:Program} {W:World} {t e:TypeId} {fuel:Nat} {cs:List Value} {x:DataW H×List MemPlace}
  (ht:P.underlying t=some (.slice e)) (hC:P.cellsOf e=k) (h:DataW.trod enc P W 0 (fun _=>true) true fuel t cs=some x)
  (hel:∀ n cs' y,cs'.length=k→DataW.trod enc P W 0 (fun _=>true) true n e cs'=some y→∃ b:α,cs'=f b∧Q b) :
  ∃ (A:Option Addr) (n c:Nat) (l:List α),cs=[.slice A n c]∧Reads W W.heap.size k A n (l.flatMap f)∧l.length=n∧n≤maxLen∧∀ b∈l,Q b:=by
 rcases open_slice ht h with ⟨hcs,_⟩|⟨a,len,cap,m,n,D,Pl,hcs,_,hl,hm,hmm,_,hi⟩
 ·exact ⟨none,0,0,[],hcs,⟨by simp,fun h0=>absurd h0 (by omega)⟩,rfl,by unfold maxLen;omega,fun b hb=>by cases hb⟩
 ·have hlm:len≤m:=by rw [hmm];simp;exact hl
  have hb:∀ i,i<len→∃ b:α,(∀ j,j<k→W.cell? (a.add (i * k+j))=(f b)[j]?)∧Q b:=by
   intro i hil
   obtain ⟨cs',hc,htr⟩:=hi i (by omega)
   rw [hC] at hc
   obtain ⟨_,hcl,hat⟩:=World.cells?_some hc
   obtain ⟨b,rfl,hq⟩:=hel _ _ _ hcl htr
   exact ⟨b,fun j hj=>by rw [← add_of_add];exact hat j hj,hq⟩
  have hlist:∀ p,p≤len→∃ l:List α,l.length=p∧(∀ i (hi:i<l.length),(∀ j,j<k→W.cell? (a.add (i * k+j))=(f l[i])[j]?)∧Q l[i]):=by
   intro p
   induction p with
   |zero=>intro _;exact ⟨[],rfl,fun i hi=>by simp at hi⟩
   |succ p ih =>
    intro hp
    obtain ⟨l,hll,hlc⟩:=ih (by omega)
    obtain ⟨b,hbc,hq⟩:=hb p (by omega)
    refine ⟨l++[b],by simp [hll],fun i hi=>?_⟩
    by_cases hip:i<l.length
    ·rw [List.getElem_append_left hip];exact hlc i hip
    ·have he:i=l.length:=by simp at hi;omega
     subst he
     rw [List.getElem_append_right (Nat.le_refl _)]
     simp only [Nat.sub_self,List.getElem_cons_zero]
     rw [hll];exact ⟨hbc,hq⟩
  obtain ⟨l,hll,hlc⟩:=hlist len (Nat.le_refl _)
  refine ⟨some a,len,cap,l,hcs,⟨by rw [flat_len hf,hll],fun h0=>⟨a,rfl,?_,?_⟩⟩,hll,by omega,fun b hb=>?_⟩
  ·have h1:=(hlc 0 (by omega)).1 0 hk
   have hs:((f (l[0]'(by omega)))[0]?)=some ((f (l[0]'(by omega)))[0]'(by rw [hf];exact hk)):=List.getElem?_eq_getElem _
   rw [hs] at h1
   have h2:=World.block_lt_of_cell? W _ h1
   rwa [block_of_add] at h2
  ·intro j u hu
   have hj:j<len * k:=by
    have h1:=(List.getElem?_eq_some_iff.1 hu).1
    rw [flat_len hf,hll] at h1;exact h1
   have hi1:j / k<l.length:=by rw [hll];exact Nat.div_lt_of_lt_mul (by rw [Nat.mul_comm];exact hj)
   have hr:j % k<k:=Nat.mod_lt _ hk
   have hjd:j=j / k * k+j % k:=by rw [Nat.mul_comm];exact (Nat.div_add_mod j k).symm
   rw [hjd] at hu ⊢
   rw [flat_get hf l _ _ hi1 hr] at hu
   rw [(hlc _ hi1).1 _ hr,hu]
  ·obtain ⟨i,hi,rfl⟩:=List.mem_iff_getElem.1 hb
   exact (hlc i hi).2
section
variable {w w':World} {base bg bx n m size size2:Nat} {e e2:TypeId} {v vg vx:Value} {xs:List Value}
theorem blk_markedk {g:Nat} {t:TypeId} {cs:Array Value} (h:w.heap[g]?=some (.cells cs t (0,0))) (hg:w.grownBy w' v.ownBlock)
  (ho:w.ownsRow base e size v n xs) (hne:e≠t):w'.heap[g]?=some (.cells cs t (0,0)):=by
 refine (hg.block g (blk_lt h) ?_).trans h
 intro hv
 rcases ho.2 with ⟨rfl,_⟩|⟨g',cap,cur,rfl,_,hh,_⟩
 ·simp [Value.ownBlock] at hv
 ·have:g=g':=by simpa [Value.ownBlock] using hv
  subst this
  rw [h] at hh
  injection hh with hh
  injection hh with _ h2
  exact hne h2.symm
end
def szN (n:Nat) (left:Int):Int:=if left - n<0 then -1 else left - n
open Go.ChangeShapes Go.WideShapes Go.ChangeAt Go.RowKit
set_option linter.unusedVariables false
set_option maxRecDepth 10000
def rowTys:List TypeId:=[9
 ,167
 ,65
 ,105
 ,165
 ,3
 ,61
 ,37
 ]
def boxAt (w:World) (k:Nat):Prop:=∃ cs t fr,w.heap[k]?=some (.cells cs t fr)∧t∉rowTys
structure Within (lo hi:Nat) (w w':World):Prop where
 os:w'.os=w.os
 tape:w'.tape=w.tape
 output:w'.output=w.output
 size:w.heap.size≤w'.heap.size
 block:∀ k,k<w.heap.size→(k<lo∨hi≤k∨boxAt w k)→w'.heap[k]?=w.heap[k]?
section
variable {lo hi lo' hi':Nat} {w w' a b c:World}
theorem Within.of_grown {base size n:Nat} {e:TypeId} {v:Value} {xs:List Value} (ho:w.ownsRow base e size v n xs) (he:e∈rowTys) (hg:w.grownBy w' v.ownBlock) (h1:lo≤base) (h2:∀ k,v.ownBlock=some k→k<hi):Within lo hi w w' :=
 ⟨hg.os,hg.tape,hg.output,hg.size,fun i hi h3=>hg.block i hi (fun e1=>by
  rcases h3 with h3|h3|⟨cs,t,fr,h3,h4⟩
  ·have:=(ho.lt i e1.symm).1;omega
  ·have:=h2 i e1.symm;omega
  ·rcases ho.2 with ⟨rfl,_⟩|⟨g,cap,cur,rfl,_,hgg,_⟩
   ·simp [Value.ownBlock] at e1
   ·simp [Value.ownBlock] at e1
    subst e1
    rw [h3] at hgg
    injection hgg with q;injection q with _ q
    subst q
    exact h4 he)⟩
theorem Within.below {B:Nat} (h:Within lo hi w w') (hB:B≤lo) (hs:B≤w.heap.size):Below B w w' :=
 ⟨h.os,h.tape,h.output,h.size,fun i hi=>h.block i (by omega) (.inl (by omega))⟩
theorem own_within {base size n:Nat} {e:TypeId} {v:Value} {xs:List Value} (ho:w.ownsRow base e size v n xs) (h:Within lo hi w w') (hx:∀ k,v.ownBlock=some k→k<lo∨hi≤k):w'.ownsRow base e size v n xs:=by
 refine ⟨ho.1,?_⟩
 rcases ho.2 with hn|⟨g,cap,cur,rfl,hb,hg,rest⟩
 ·exact .inl hn
 ·exact .inr ⟨g,cap,cur,rfl,hb,(h.block g (blk_lt hg) (by have:=hx g rfl;omega)).trans hg,rest⟩
theorem own_ne_type {b1 b2 s1 s2 n1 n2:Nat} {e1 e2:TypeId} {v1 v2:Value} {x1 x2:List Value} (h1:w.ownsRow b1 e1 s1 v1 n1 x1) (h2:w.ownsRow b2 e2 s2 v2 n2 x2) (hne:e1≠e2):∀ k,v1.ownBlock=some k→v2.ownBlock≠some k:=by
 intro k hk hk2
 rcases h1.2 with ⟨rfl,_⟩|⟨g1,_,_,rfl,_,hg1,_⟩
 ·simp [Value.ownBlock] at hk
 ·rcases h2.2 with ⟨rfl,_⟩|⟨g2,_,_,rfl,_,hg2,_⟩
  ·simp [Value.ownBlock] at hk2
  ·simp [Value.ownBlock] at hk hk2
   subst hk
   subst hk2
   rw [hg1] at hg2
   injection hg2 with h;injection h with _ h
   exact hne h
theorem own_grown {base size n:Nat} {e:TypeId} {v:Value} {xs:List Value} {row:Option Nat} (ho:w.ownsRow base e size v n xs) (hg:w.grownBy w' row) (hx:∀ k,v.ownBlock=some k→row≠some k):w'.ownsRow base e size v n xs:=by
 refine ho.kept hg ?_
 cases hv:v.ownBlock with
 |none=>exact .inl rfl
 |some k=>exact .inr (fun he=>hx k hv he.symm)
theorem own_box {base size n g:Nat} {e:TypeId} {v:Value} {xs:List Value} {cs:Array Value} {t:TypeId} {fr:Nat×Nat} (ho:w.ownsRow base e size v n xs) (he:e∈rowTys) (hk:w.heap[g]?=some (.cells cs t fr)) (ht:t∉rowTys) (hg:w.grownBy w' (some g)):w'.ownsRow base e size v n xs:=by
 refine own_grown ho hg ?_
 intro k hk2 he2
 injection he2 with he2
 subst he2
 rcases ho.2 with ⟨rfl,_⟩|⟨g1,_,_,rfl,_,hg1,_⟩
 ·simp [Value.ownBlock] at hk2
 ·simp [Value.ownBlock] at hk2
  subst hk2
  rw [hk] at hg1
  injection hg1 with q;injection q with _ q
  subst q
  exact ht he
structure Boxy (w w':World):Prop where
 size:w.heap.size≤w'.heap.size
 block:∀ k,k<w.heap.size→¬boxAt w k→w'.heap[k]?=w.heap[k]?
theorem Boxy.refl (w:World):Boxy w w:=⟨Nat.le_refl _,fun _ _ _=>rfl⟩
theorem Boxy.setCell (h:Boxy w w') {p:Addr} (hp:boxAt w p.block∨w.heap.size≤p.block) (u:Value):Boxy w (w'.setCell p u) :=
 ⟨by simpa [World.setCell] using h.size,fun k hk hn=>(Below.heap_setCell _ _ _ _ (by
  rintro rfl
  rcases hp with hp|hp
  ·exact hn hp
  ·omega)).trans (h.block k hk hn)⟩
theorem Boxy.alloc (h:Boxy w w') (o:Obj):Boxy w (w'.alloc o):=⟨by have:=h.size;simp;omega,fun k hk hn=>(Below.heap_alloc _ _ _ (by have:=h.size;omega)).trans (h.block k hk hn)⟩
theorem Boxy.drew (h:Boxy w w'):Boxy w w'.drew:=⟨h.size,h.block⟩
theorem boxy {w w':World} (h:Boxy w w':=by repeat (first|(with_reducible exact Boxy.refl _)|(with_reducible refine Boxy.drew ?_)|(with_reducible refine Boxy.drewN ?_ _)|(with_reducible refine Boxy.alloc ?_ _)|((with_reducible refine Boxy.setCell ?_ ?hbs _);(case hbs=>first|(with_reducible exact .inl (by assumption))|exact .inl (by assumption)|exact .inr (by simp)|exact .inr (by simp;omega))))):Boxy w w':=h
theorem own_boxy {base size n:Nat} {e:TypeId} {v:Value} {xs:List Value} (ho:w.ownsRow base e size v n xs) (he:e∈rowTys) (h:Boxy w w'):w'.ownsRow base e size v n xs:=by
 refine ⟨ho.1,?_⟩
 rcases ho.2 with hn|⟨g,cap,cur,rfl,hb,hg,rest⟩
 ·exact .inl hn
 ·refine .inr ⟨g,cap,cur,rfl,hb,(h.block g (blk_lt hg) ?_).trans hg,rest⟩
  rintro ⟨cs,t,fr,hq,ht⟩
  rw [hg] at hq
  injection hq with q;injection q with _ q
  subst q
  exact ht he
theorem boxAt_of {g:Nat} {cs:Array Value} {t:TypeId} {fr:Nat×Nat} (h:w.heap[g]?=some (.cells cs t fr)) (ht:t∉rowTys:=by decide):boxAt w g:=⟨cs,t,fr,h,ht⟩
theorem own_lo {base base' size n:Nat} {e:TypeId} {v:Value} {xs:List Value} (ho:w.ownsRow base e size v n xs) (hx:∀ k,v.ownBlock=some k→base'≤k):w.ownsRow base' e size v n xs:=by
 refine ⟨ho.1,?_⟩
 rcases ho.2 with hn|⟨g,cap,cur,rfl,hb,rest⟩
 ·exact .inl hn
 ·exact .inr ⟨g,cap,cur,rfl,hx g rfl,rest⟩
end
structure OwnS (w:World) (lo hi:Nat) (A:Option Addr) (c:Nat) (ss:List ByteArray):Prop where
 row:w.ownsRow lo 9 1 (.slice A ss.length c) ss.length (ss.map Value.string)
 top:∀ k,(Value.slice A ss.length c).ownBlock=some k→k<hi
section
variable {lo hi lo' hi':Nat} {w w':World} {A:Option Addr} {c:Nat} {ss:List ByteArray}
theorem OwnS.within {l h:Nat} (ho:OwnS w lo hi A c ss) (hW:Within l h w w') (hd:hi≤l∨h≤lo):OwnS w' lo hi A c ss :=
 ⟨own_within ho.row hW (fun k hk=>by have h1:=ho.top k hk;have h2:=(ho.row.lt k hk).1;omega),ho.top⟩
theorem OwnS.below (ho:OwnS w lo hi A c ss) (hb:Below w.heap.size w w'):OwnS w' lo hi A c ss:=⟨own_below ho.row hb,ho.top⟩
theorem OwnS.box {g:Nat} {cs:Array Value} {t:TypeId} {fr:Nat×Nat} (ho:OwnS w lo hi A c ss) (hk:w.heap[g]?=some (.cells cs t fr)) (ht:t∉rowTys) (hg:w.grownBy w' (some g)):OwnS w' lo hi A c ss:=⟨own_box ho.row (by decide) hk ht hg,ho.top⟩
theorem OwnS.boxy (ho:OwnS w lo hi A c ss) (h:Boxy w w'):OwnS w' lo hi A c ss:=⟨own_boxy ho.row (by decide) h,ho.top⟩
theorem OwnS.drew (ho:OwnS w lo hi A c ss):OwnS w.drew lo hi A c ss:=⟨ho.row,ho.top⟩
theorem OwnS.alloc (ho:OwnS w lo hi A c ss) (o:Obj):OwnS (w.alloc o) lo hi A c ss:=⟨ho.row.alloc _,ho.top⟩
theorem OwnS.wide (ho:OwnS w lo hi A c ss) (h1:lo'≤lo) (h2:hi≤hi'):OwnS w lo' hi' A c ss:=⟨own_base ho.row h1,fun k hk=>by have:=ho.top k hk;omega⟩
theorem OwnS.of (ho:w.ownsRow lo 9 1 (.slice A ss.length c) ss.length (ss.map Value.string)) (h:w.heap.size≤hi):OwnS w lo hi A c ss:=⟨ho,fun k hk=>by have:=(ho.lt k hk).2;omega⟩
theorem OwnS.rd (ho:OwnS w lo hi A c ss) (hn:ss.length≤16777216) (hs:∀ s∈ss,s.size≤16777216):Strs w w.heap.size A ss.length ss:=strs_of_own ho.row hn hs
end
theorem blk7_set {w:World} {g:Nat} {t:TypeId} {z0 z1 z2 z3 z4 z5 z6:Value} (h:w.heap[g]?=some (.cells #[z0,z1,z2,z3,z4,z5,z6] t (0,0))) (a0 a1 a2 a3 a4 a5 a6:Value) :
  (((((((w.setCell ⟨g,0,none⟩ a0).setCell ⟨g,1,none⟩ a1).setCell ⟨g,2,none⟩ a2).setCell ⟨g,3,none⟩ a3).setCell ⟨g,4,none⟩ a4).setCell ⟨g,5,none⟩ a5).setCell ⟨g,6,none⟩ a6).heap[g]?=some (.cells #[a0,a1,a2,a3,a4,a5,a6] t (0,0)):=by
 have:=blk_set (blk_set (blk_set (blk_set (blk_set (blk_set (blk_set h 0 a0) 1 a1) 2 a2) 3 a3) 4 a4) 5 a5) 6 a6
 simpa using this
theorem blk10_set {w:World} {g:Nat} {t:TypeId} {z0 z1 z2 z3 z4 z5 z6 z7 z8 z9:Value} (h:w.heap[g]?=some (.cells #[z0,z1,z2,z3,z4,z5,z6,z7,z8,z9] t (0,0))) (a0 a1 a2 a3 a4 a5 a6 a7 a8 a9:Value) :
  ((((((((((w.setCell ⟨g,0,none⟩ a0).setCell ⟨g,1,none⟩ a1).setCell ⟨g,2,none⟩ a2).setCell ⟨g,3,none⟩ a3).setCell ⟨g,4,none⟩ a4).setCell ⟨g,5,none⟩ a5).setCell ⟨g,6,none⟩ a6).setCell ⟨g,7,none⟩ a7).setCell ⟨g,8,none⟩ a8).setCell ⟨g,9,none⟩ a9).heap[g]?=some (.cells #[a0,a1,a2,a3,a4,a5,a6,a7,a8,a9] t (0,0)):=by
 have:=blk_set (blk_set (blk_set (blk_set (blk_set (blk_set (blk_set (blk_set (blk_set (blk_set h 0 a0) 1 a1) 2 a2) 3 a3) 4 a4) 5 a5) 6 a6) 7 a7) 8 a8) 9 a9
 simpa using this
theorem blk_other {w:World} {g:Nat} {p:Addr} {o:Obj} (h:w.heap[g]?=some o) (hne:g≠p.block) (u:Value):(w.setCell p u).heap[g]?=some o:=(Below.heap_setCell _ _ _ _ hne).trans h
open Go.ChangeShapes Go.WideShapes Go.ChangeAt Go.RowKit
set_option linter.unusedVariables false
set_option maxRecDepth 10000
def OkS (ss:List ByteArray) (m:Nat):Prop:=ss.length≤m∧∀ s∈ss,s.size≤16777216
theorem OkS.more {ss:List ByteArray} {m k:Nat} (h:OkS ss m) (hk:m≤k):OkS ss k:=⟨by have:=h.1;omega,h.2⟩
def UCard (d f:Int) (ss:List ByteArray) (w:World) (e:Ending) (w':World):Prop :=
 ∃ A c,e=.returned (.agg #[.int .i64 d,.int .i64 f,.slice A ss.length c])∧OwnS w' w.heap.size w'.heap.size A c ss∧Below w.heap.size w w'
def UCardB (d f:Int) (ss:List ByteArray) (b:Bool) (w:World) (e:Ending) (w':World):Prop :=
 ∃ A c,e=.returned (.tuple #[.agg #[.int .i64 d,.int .i64 f,.slice A ss.length c],.bool b])∧OwnS w' w.heap.size w'.heap.size A c ss∧Below w.heap.size w w'
theorem UCardB.of {d f:Int} {ss:List ByteArray} {b:Bool} {w w':World} {e:Ending} (h:FreshCardB w.heap.size d f ss b w e w'):UCardB d f ss b w e w':=by
 obtain ⟨A,c,he,ho,hb⟩:=h
 exact ⟨A,c,he,OwnS.of ho (Nat.le_refl _),hb⟩
structure MkS (w:World) (lo hi:Nat) (A:Option Addr) (c:Nat) (k:Int) (n:Nat):Prop where
 row:w.ownsRow lo 9 1 (.slice A n c) n (marks k n)
 top:∀ k,(Value.slice A n c).ownBlock=some k→k<hi
section
variable {lo hi:Nat} {w w':World} {A:Option Addr} {c n:Nat} {k:Int}
end
open Go.ChangeShapes Go.WideShapes Go.ChangeAt Go.RowKit
set_option linter.unusedVariables false
set_option maxRecDepth 10000
theorem info_stepCells:(Tryz.prog.info? 167).map (fun i=>(i.zero,i.size,i.bytes))=some (some (.agg #[.int .i64 0,.int .i64 0,.int .i64 0,.int .i64 0,.int .i64 0,.string ByteArray.empty,.string ByteArray.empty]),7,72):=by kernel_rfl
def FreshSteps (base:Nat) (l:List PStep) (w:World) (e:Ending) (w':World):Prop :=
 ∃ A c,e=.returned (.slice A l.length c)∧w'.ownsRow base 167 7 (.slice A l.length c) l.length (l.flatMap stepCells)∧Below w.heap.size w w'
def mkStep (k:Int):List Value:=[.int .i64 (k),.int .i64 (k+1),.int .i64 (k+1+1),.int .i64 (k+1+1+1),.int .i64 (k+1+1+1+1),.string (markT (k+1+1+1+1+1)),.string (markT (k+1+1+1+1+1+1))]
def marksStep (k:Int) (n:Nat):List Value:=(List.range n).flatMap fun (i:Nat)=>mkStep (k+7 * (i:Int))
theorem info_paperCells:(Tryz.prog.info? 105).map (fun i=>(i.zero,i.size,i.bytes))=some (some (.agg #[.int .i64 0,.int .i64 0,.int .i64 0]),3,24):=by kernel_rfl
def FreshPapers (base:Nat) (l:List PPaper) (w:World) (e:Ending) (w':World):Prop :=
 ∃ A c,e=.returned (.slice A l.length c)∧w'.ownsRow base 105 3 (.slice A l.length c) l.length (l.flatMap paperCells)∧Below w.heap.size w w'
def mkPaper (k:Int):List Value:=[.int .i64 (k),.int .i64 (k+1),.int .i64 (k+1+1)]
def marksPaper (k:Int) (n:Nat):List Value:=(List.range n).flatMap fun (i:Nat)=>mkPaper (k+3 * (i:Int))
theorem own_setCellsG {e:TypeId} {base g n c size:Nat}:∀ (vs:List Value) (o:Nat) (w:World) (xs:List Value),w.ownsRow base e size (.slice (some ⟨g,0,none⟩) n c) n xs→o+vs.length≤n * size →
  (w.setCells g o vs).ownsRow base e size (.slice (some ⟨g,0,none⟩) n c) n (xs.take o++(vs++xs.drop (o+vs.length)))∧w.grownBy (w.setCells g o vs) (some g)
 |[],o,w,xs,h,_=>by
  refine ⟨?_,World.grownBy.refl w _⟩
  simpa [World.setCells] using h
 |v :: vs,o,w,xs,h,hl=>by
  simp only [List.length_cons] at hl
  have hx:xs.length=n * size:=by have:=h.1;omega
  have h1:=h.stored o v
  have h2:=own_setCellsG vs (o+1) (w.setCell ⟨g,o,none⟩ v) (xs.set o v) h1.1 (by omega)
  refine ⟨?_,only_trans h1.2 h2.2⟩
  have he:(xs.set o v).take (o+1)++(vs++(xs.set o v).drop (o+1+vs.length))=xs.take o++((v :: vs)++xs.drop (o+(v :: vs).length)):=by
   have hd:(xs.set o v).drop (o+1+vs.length)=xs.drop (o+(v :: vs).length):=by
    rw [List.drop_set_of_lt (by omega)]
    congr 1
    simp only [List.length_cons];omega
   have ht:(xs.set o v).take (o+1)=xs.take o++[v]:=by
    rw [List.take_succ_eq_append_getElem (by rw [List.length_set];omega),List.getElem_set_self,List.take_set_of_le (Nat.le_refl _)]
   rw [hd,ht]
   simp
  rw [← he]
  exact h2.1
theorem own_capG {w:World} {base n c size:Nat} {e:TypeId} {A:Option Addr} {xs:List Value} (h:w.ownsRow base e size (.slice A n c) n xs):n≤c∧c≤9223372036854775807:=by
 rcases h.2 with ⟨hv,h0⟩|⟨g',cap,cur,hv,_,_,h1,h2,_⟩
 ·injection hv with _ _ e3;omega
 ·injection hv with _ _ e3;subst e3;unfold maxLen at h2;exact ⟨h1,by omega⟩
theorem own_prefixG {w:World} {base n c m size:Nat} {e:TypeId} {a:Addr} {xs:List Value} (h:w.ownsRow base e size (.slice (some a) n c) n xs) (hm:m≤n) :
  w.ownsRow base e size (.slice (some a) m c) m (xs.take (m * size)):=by
 have hx:=h.1
 have hmn:m * size≤n * size:=Nat.mul_le_mul_right _ hm
 refine ⟨by rw [List.length_take];omega,?_⟩
 rcases h.2 with ⟨hv,hn⟩|⟨g,cap,cur,hv,hb,hg,hnc,hcm,hcs,ht⟩
 ·injection hv with e1;cases e1
 ·injection hv with e1 e2 e3
  subst e3
  refine .inr ⟨g,c,cur,by rw [e1],hb,hg,by omega,hcm,hcs,?_⟩
  rw [← ht,List.take_take]
  congr 1
  omega
theorem bel_setCells {B b:Nat} {a:World} (hb:B≤b):∀ (vs:List Value) (o:Nat) (w:World),Below B a w→Below B a (w.setCells b o vs)
 |[],_,_,h=>h
 |v :: vs,o,w,h=>bel_setCells hb vs (o+1) _ (h.setCell (p:=⟨b,o,none⟩) hb v)
theorem own_room {w:World} {base g n c size:Nat} {e:TypeId} {xs:List Value} (h:w.ownsRow base e size (.slice (some ⟨g,0,none⟩) n c) n xs) (hc:n+1≤c) :
  ∃ ys:List Value,ys.length=(n+1) * size∧ys.take (n * size)=xs∧w.ownsRow base e size (.slice (some ⟨g,0,none⟩) (n+1) c) (n+1) ys:=by
 rcases h.2 with ⟨hv,hn⟩|⟨g',cap,cur,hv,hb,hg,hnc,hcm,hcs,ht⟩
 ·injection hv with e1;cases e1
 ·injection hv with e1 e2 e3
  injection e1 with e1
  injection e1 with e1
  subst e1 e3
  have hk:(n+1) * size≤c * size:=Nat.mul_le_mul_right _ hc
  have hn1:n * size≤(n+1) * size:=Nat.mul_le_mul_right _ (by omega)
  refine ⟨cur.toList.take ((n+1) * size),by rw [List.length_take,Array.length_toList];omega,?_,by rw [List.length_take,Array.length_toList];omega,.inr ⟨g,c,cur,rfl,hb,hg,hc,hcm,hcs,rfl⟩⟩
  rw [List.take_take,Nat.min_eq_left hn1]
  exact ht
theorem shape_of {w:World} {g:Nat} {t:TypeId} {cs:Array Value} {fr:Nat×Nat} (h:w.heap[g]?=some (.cells cs t fr)):w.shape? g=some (t,cs.size):=by unfold World.shape?;rw [h]
theorem own_block {w:World} {base g n c size:Nat} {e:TypeId} {xs:List Value} (h:w.ownsRow base e size (.slice (some ⟨g,0,none⟩) n c) n xs):∃ cur:Array Value,w.heap[g]?=some (.cells cur e (0,0))∧cur.size=c * size∧c≤maxLen∧base≤g:=by
 rcases h.2 with ⟨hv,hn⟩|⟨g',cap,cur,hv,hb,hg,hnc,hcm,hcs,ht⟩
 ·injection hv with e1;cases e1
 ·injection hv with e1 e2 e3
  injection e1 with e1
  injection e1 with e1
  subst e1 e3
  exact ⟨cur,hg,hcs,hcm,hb⟩
theorem own_new {w:World} {base n G size:Nat} {e:TypeId} {cur:Array Value} {xs:List Value} (hb:base≤w.heap.size) (hn:n≤G) (hG:G≤maxLen) (hs:cur.size=G * size) (hx:xs.length=n * size) (ht:cur.toList.take (n * size)=xs) :
  (w.alloc (.cells cur e)).ownsRow base e size (.slice (some ⟨w.heap.size,0,none⟩) n G) n xs :=
 ⟨hx,.inr ⟨w.heap.size,G,cur,rfl,hb,heap_alloc_new w _,hn,hG,hs,ht⟩⟩
theorem lay_shift {ys cs vs:List Value} {i n size:Nat} (hy:ys.length=(n+1) * size) (hc:ys.take (n * size)=cs) (hi:i≤n) (hv:vs.length=size) :
  let zs:=ys.take ((i+1) * size)++(cs.drop (i * size)++ys.drop ((i+1) * size+(cs.drop (i * size)).length))
  zs.take (i * size)++(vs++zs.drop (i * size+vs.length))=cs.take (i * size)++(vs++cs.drop (i * size)):=by
 intro zs
 have h1:i * size≤n * size:=Nat.mul_le_mul_right _ hi
 have h2:(n+1) * size=n * size+size:=by rw [Nat.succ_mul]
 have h3:(i+1) * size=i * size+size:=by rw [Nat.succ_mul]
 have hl:cs.length=n * size:=by rw [← hc,List.length_take];omega
 have hd:ys.drop ((i+1) * size+(cs.drop (i * size)).length)=[]:=List.drop_eq_nil_of_le (by rw [List.length_drop];omega)
 have hz:zs=ys.take ((i+1) * size)++cs.drop (i * size):=by show ys.take ((i+1) * size)++(cs.drop (i * size)++ys.drop ((i+1) * size+(cs.drop (i * size)).length))=_;rw [hd,List.append_nil]
 have ht:zs.take (i * size)=cs.take (i * size):=by
  rw [hz,List.take_append_of_le_length (by rw [List.length_take];omega),List.take_take,← hc,List.take_take]
  congr 1
  omega
 have hdr:zs.drop (i * size+vs.length)=cs.drop (i * size):=by
  rw [hz]
  have:(ys.take ((i+1) * size)).length=i * size+vs.length:=by rw [List.length_take];omega
  rw [← this,List.drop_left]
 rw [ht,hdr]
end Go.Proofs.YtlimlolciekimaaGreatDoor
