/- Contracts of the program's and the reference's functions (UWork, Pap1, Pap2, Pap3, Pap4). -/
import Derived.Deep.RegionLaw
import Derived.Test.YtlimlolciekimaaGreatDoorRows
import Derived.Test.YtlimlolciekimaaGreatDoorQUf
import Derived.Test.YtlimlolciekimaaGreatDoorQUi
import Derived.Test.YtlimlolciekimaaGreatDoorQUb
import Derived.Test.YtlimlolciekimaaGreatDoorQUa
import Derived.Test.YtlimlolciekimaaGreatDoorQUc
namespace Go.Proofs.YtlimlolciekimaaGreatDoor
set_option maxHeartbeats 1600000
open Go.ChangeShapes Go.WideShapes Go.ChangeAt Go.RowKit
set_option linter.unusedVariables false
set_option linter.unusedSimpArgs false
set_option maxRecDepth 10000
structure OwnP (w:World) (lo hi:Nat) (A:Option Addr) (c:Nat) (l:List PPaper):Prop where
 row:w.ownsRow lo 105 3 (.slice A l.length c) l.length (l.flatMap paperCells)
 top:∀ k,(Value.slice A l.length c).ownBlock=some k→k<hi
section
variable {lo hi lo' hi':Nat} {w w':World} {A:Option Addr} {c:Nat} {l:List PPaper}
theorem OwnP.within {a h:Nat} (ho:OwnP w lo hi A c l) (hW:Within a h w w') (hd:hi≤a∨h≤lo):OwnP w' lo hi A c l :=
 ⟨own_within ho.row hW (fun k hk=>by have h1:=ho.top k hk;have h2:=(ho.row.lt k hk).1;omega),ho.top⟩
theorem OwnP.below (ho:OwnP w lo hi A c l) (hb:Below w.heap.size w w'):OwnP w' lo hi A c l:=⟨own_below ho.row hb,ho.top⟩
theorem OwnP.box {g:Nat} {cs:Array Value} {t:TypeId} {fr:Nat×Nat} (ho:OwnP w lo hi A c l) (hk:w.heap[g]?=some (.cells cs t fr)) (ht:t∉rowTys) (hg:w.grownBy w' (some g)):OwnP w' lo hi A c l:=⟨own_box ho.row (by decide) hk ht hg,ho.top⟩
theorem OwnP.boxy (ho:OwnP w lo hi A c l) (h:Boxy w w'):OwnP w' lo hi A c l:=⟨own_boxy ho.row (by decide) h,ho.top⟩
theorem OwnP.drew (ho:OwnP w lo hi A c l):OwnP w.drew lo hi A c l:=⟨ho.row,ho.top⟩
theorem OwnP.alloc (ho:OwnP w lo hi A c l) (o:Obj):OwnP (w.alloc o) lo hi A c l:=⟨ho.row.alloc _,ho.top⟩
theorem OwnP.of (ho:w.ownsRow lo 105 3 (.slice A l.length c) l.length (l.flatMap paperCells)) (h:w.heap.size≤hi):OwnP w lo hi A c l:=⟨ho,fun k hk=>by have:=(ho.lt k hk).2;omega⟩
theorem OwnP.rd (ho:OwnP w lo hi A c l) (hn:l.length≤16777216):Papers w w.heap.size A l.length l:=⟨Reads.of_own ho.row,hn⟩
end
structure OkWork (D:PDraft) (P:List PItem) (pp:List PPaper) (m:Nat):Prop where
 d:OkDraft D m
 i:OkItems P m
 p:pp.length≤m
theorem OkWork.more {D:PDraft} {P:List PItem} {pp:List PPaper} {m k:Nat} (h:OkWork D P pp m) (hk:m≤k):OkWork D P pp k:=⟨h.d.more hk,h.i.more hk,by have:=h.p;omega⟩
structure RdWork0 (w:World) (B:Nat) (A1 A2 A3 A4 A5:Option Addr) (D:PDraft) (P:List PItem) (pp:List PPaper):Prop where
 d:RdDraft w B A1 A2 A3 D
 i:∃ L,plI L=P∧Items w B A4 P.length L
 p:Papers w B A5 pp.length pp
structure RdWork (w:World) (B:Nat) (A1 A2 A3 A4:Option Addr) (c4:Nat) (A5:Option Addr) (D:PDraft) (P:List PItem) (pp:List PPaper):Prop where
 d:RdDraft w B A1 A2 A3 D
 i:∃ L,plI L=P∧Items w B A4 P.length L
 p:Papers w B A5 pp.length pp
 cap:P.length≤c4∧c4≤9223372036854775807∧(A4=none→c4=0)
section
variable {w w':World} {B B':Nat} {A1 A2 A3 A4 A5:Option Addr} {c4:Nat} {D:PDraft} {P:List PItem} {pp:List PPaper}
theorem RdWork.below (h:RdWork w B A1 A2 A3 A4 c4 A5 D P pp) (hb:Below B w w'):RdWork w' B A1 A2 A3 A4 c4 A5 D P pp:=⟨h.d.below hb,h.i.elim fun L q=>⟨L,q.1,q.2.below hb⟩,h.p.below hb,h.cap⟩
theorem RdWork.alloc (h:RdWork w B A1 A2 A3 A4 c4 A5 D P pp) (hB:B≤w.heap.size) (o:Obj):RdWork (w.alloc o) B A1 A2 A3 A4 c4 A5 D P pp:=⟨h.d.alloc hB o,h.i.elim fun L q=>⟨L,q.1,q.2.alloc hB o⟩,h.p.alloc hB o,h.cap⟩
end
theorem own_capU {w:World} {base n c size:Nat} {e:TypeId} {A:Option Addr} {xs:List Value} (h:w.ownsRow base e size (.slice A n c) n xs):n≤c∧c≤9223372036854775807∧(A=none→c=0):=by
 rcases h.2 with ⟨hv,h0⟩|⟨g',cap,cur,hv,_,_,h1,h2,_⟩
 ·injection hv with e1 _ e3;exact ⟨by omega,by omega,fun _=>e3⟩
 ·injection hv with e1 _ e3;subst e3;unfold maxLen at h2;exact ⟨h1,by omega,fun h=>by rw [e1] at h;cases h⟩
structure OwnW (w:World) (lo hi:Nat) (A1:Option Addr) (c1:Nat) (A2:Option Addr) (c2:Nat) (A3:Option Addr) (c3:Nat) (A4:Option Addr) (c4:Nat) (A5:Option Addr) (c5:Nat) (D:PDraft) (P:List PItem) (pp:List PPaper):Prop where
 all:∃ l1 h1 l2 h2 l3 h3 L,(lo≤l1∧h1≤hi∧lo≤l2∧h2≤hi∧lo≤l3∧h3≤hi)∧((h1≤l2∨h2≤l1)∧(h1≤l3∨h3≤l1)∧(h2≤l3∨h3≤l2))∧OwnDW w l1 h1 A1 c1 A2 c2 A3 c3 D∧plI L=P∧OwnItems w l2 h2 A4 P.length c4 L∧OwnP w l3 h3 A5 c5 pp
section
variable {lo hi lo' hi':Nat} {w w':World} {A1 A2 A3 A4 A5:Option Addr} {c1 c2 c3 c4 c5:Nat} {D:PDraft} {P:List PItem} {pp:List PPaper}
theorem OwnW.mk3 {l1 h1 l2 h2 l3 h3:Nat} {L:List RItem} (hd:OwnDW w l1 h1 A1 c1 A2 c2 A3 c3 D) (hp:plI L=P) (hi_:OwnItems w l2 h2 A4 P.length c4 L) (hpp:OwnP w l3 h3 A5 c5 pp) (hr:lo≤l1∧h1≤hi∧lo≤l2∧h2≤hi∧lo≤l3∧h3≤hi) (ha:(h1≤l2∨h2≤l1)∧(h1≤l3∨h3≤l1)∧(h2≤l3∨h3≤l2)):OwnW w lo hi A1 c1 A2 c2 A3 c3 A4 c4 A5 c5 D P pp:=⟨⟨l1,h1,l2,h2,l3,h3,L,hr,ha,hd,hp,hi_,hpp⟩⟩
theorem OwnW.within {l h:Nat} (ho:OwnW w lo hi A1 c1 A2 c2 A3 c3 A4 c4 A5 c5 D P pp) (hW:Within l h w w') (hd:hi≤l∨h≤lo):OwnW w' lo hi A1 c1 A2 c2 A3 c3 A4 c4 A5 c5 D P pp:=by
 obtain ⟨l1,h1,l2,h2,l3,h3,L,hr,ha,x,hp,y,z⟩:=ho.all
 exact .mk3 (x.within hW (by omega)) hp (y.within hW (by omega)) (z.within hW (by omega)) hr ha
theorem OwnW.below (ho:OwnW w lo hi A1 c1 A2 c2 A3 c3 A4 c4 A5 c5 D P pp) (hb:Below w.heap.size w w'):OwnW w' lo hi A1 c1 A2 c2 A3 c3 A4 c4 A5 c5 D P pp:=by
 obtain ⟨l1,h1,l2,h2,l3,h3,L,hr,ha,x,hp,y,z⟩:=ho.all
 exact .mk3 (x.below hb) hp (y.below hb) (z.below hb) hr ha
theorem OwnW.box {g:Nat} {cs:Array Value} {t:TypeId} {fr:Nat×Nat} (ho:OwnW w lo hi A1 c1 A2 c2 A3 c3 A4 c4 A5 c5 D P pp) (hk:w.heap[g]?=some (.cells cs t fr)) (ht:t∉rowTys) (hg:w.grownBy w' (some g)):OwnW w' lo hi A1 c1 A2 c2 A3 c3 A4 c4 A5 c5 D P pp:=by
 obtain ⟨l1,h1,l2,h2,l3,h3,L,hr,ha,x,hp,y,z⟩:=ho.all
 exact .mk3 (x.box hk ht hg) hp (y.box hk ht hg) (z.box hk ht hg) hr ha
theorem OwnW.boxy (ho:OwnW w lo hi A1 c1 A2 c2 A3 c3 A4 c4 A5 c5 D P pp) (h:Boxy w w'):OwnW w' lo hi A1 c1 A2 c2 A3 c3 A4 c4 A5 c5 D P pp:=by
 obtain ⟨l1,h1,l2,h2,l3,h3,L,hr,ha,x,hp,y,z⟩:=ho.all
 exact .mk3 (x.boxy h) hp (y.boxy h) (z.boxy h) hr ha
theorem OwnW.drew (ho:OwnW w lo hi A1 c1 A2 c2 A3 c3 A4 c4 A5 c5 D P pp):OwnW w.drew lo hi A1 c1 A2 c2 A3 c3 A4 c4 A5 c5 D P pp:=by
 obtain ⟨l1,h1,l2,h2,l3,h3,L,hr,ha,x,hp,y,z⟩:=ho.all
 exact .mk3 x.drew hp y.drew z.drew hr ha
theorem OwnW.alloc (ho:OwnW w lo hi A1 c1 A2 c2 A3 c3 A4 c4 A5 c5 D P pp) (o:Obj):OwnW (w.alloc o) lo hi A1 c1 A2 c2 A3 c3 A4 c4 A5 c5 D P pp:=by
 obtain ⟨l1,h1,l2,h2,l3,h3,L,hr,ha,x,hp,y,z⟩:=ho.all
 exact .mk3 (x.alloc o) hp (y.alloc o) (z.alloc o) hr ha
theorem OwnW.wide (ho:OwnW w lo hi A1 c1 A2 c2 A3 c3 A4 c4 A5 c5 D P pp) (k1:lo'≤lo) (k2:hi≤hi'):OwnW w lo' hi' A1 c1 A2 c2 A3 c3 A4 c4 A5 c5 D P pp:=by
 obtain ⟨l1,h1,l2,h2,l3,h3,L,hr,ha,x,hp,y,z⟩:=ho.all
 exact .mk3 x hp y z (by omega) ha
theorem OwnW.rd (ho:OwnW w lo hi A1 c1 A2 c2 A3 c3 A4 c4 A5 c5 D P pp) (hk:OkWork D P pp 16777216):RdWork w w.heap.size A1 A2 A3 A4 c4 A5 D P pp:=by
 obtain ⟨l1,h1,l2,h2,l3,h3,L,hr,ha,x,hp,y,z⟩:=ho.all
 exact ⟨x.rd hk.d,⟨L,hp,y.rdP hp hk.i⟩,z.rd hk.p,own_capU y.row⟩
end
def UWork (d1 f1:Int) (ss1:List ByteArray) (d2 f2:Int) (ss2:List ByteArray) (st:List PStep) (P:List PItem) (pp:List PPaper) (m:Int) (w:World) (e:Ending) (w':World):Prop :=
 ∃ B1 e1 B2 e2 B3 e3 B4 e4 B5 e5,e=.returned (.agg #[.int .i64 d1,.int .i64 f1,.slice B1 ss1.length e1,.int .i64 d2,.int .i64 f2,.slice B2 ss2.length e2,.slice B3 st.length e3,.slice B4 P.length e4,.slice B5 pp.length e5,.int .i64 m])∧OwnW w' w.heap.size w'.heap.size B1 e1 B2 e2 B3 e3 B4 e4 B5 e5 ⟨d1,f1,ss1,d2,f2,ss2,st⟩ P pp∧Below w.heap.size w w'
def UWorkB (d1 f1:Int) (ss1:List ByteArray) (d2 f2:Int) (ss2:List ByteArray) (st:List PStep) (P:List PItem) (pp:List PPaper) (m:Int) (b:Bool) (w:World) (e:Ending) (w':World):Prop :=
 ∃ B1 e1 B2 e2 B3 e3 B4 e4 B5 e5,e=.returned (.tuple #[.agg #[.int .i64 d1,.int .i64 f1,.slice B1 ss1.length e1,.int .i64 d2,.int .i64 f2,.slice B2 ss2.length e2,.slice B3 st.length e3,.slice B4 P.length e4,.slice B5 pp.length e5,.int .i64 m],.bool b])∧OwnW w' w.heap.size w'.heap.size B1 e1 B2 e2 B3 e3 B4 e4 B5 e5 ⟨d1,f1,ss1,d2,f2,ss2,st⟩ P pp∧Below w.heap.size w w'
def UWorkI (d1 f1:Int) (ss1:List ByteArray) (d2 f2:Int) (ss2:List ByteArray) (st:List PStep) (P:List PItem) (pp:List PPaper) (m:Int) (x:Int) (w:World) (e:Ending) (w':World):Prop :=
 ∃ B1 e1 B2 e2 B3 e3 B4 e4 B5 e5,e=.returned (.tuple #[.agg #[.int .i64 d1,.int .i64 f1,.slice B1 ss1.length e1,.int .i64 d2,.int .i64 f2,.slice B2 ss2.length e2,.slice B3 st.length e3,.slice B4 P.length e4,.slice B5 pp.length e5,.int .i64 m],.int .i64 x])∧OwnW w' w.heap.size w'.heap.size B1 e1 B2 e2 B3 e3 B4 e4 B5 e5 ⟨d1,f1,ss1,d2,f2,ss2,st⟩ P pp∧Below w.heap.size w w'
theorem blk_other7 {w:World} {g g2:Nat} {o:Obj} (h:w.heap[g]?=some o) (hne:g≠g2) (a0 a1 a2 a3 a4 a5 a6:Value):(((((((w.setCell ⟨g2,0,none⟩ a0).setCell ⟨g2,1,none⟩ a1).setCell ⟨g2,2,none⟩ a2).setCell ⟨g2,3,none⟩ a3).setCell ⟨g2,4,none⟩ a4).setCell ⟨g2,5,none⟩ a5).setCell ⟨g2,6,none⟩ a6).heap[g]?=some o :=
 blk_other (blk_other (blk_other (blk_other (blk_other (blk_other (blk_other h hne _) hne _) hne _) hne _) hne _) hne _) hne _
theorem blk10f {w:World} {g:Nat} {t:TypeId} {a0 a1 a2 a3 a4 a5 a6 a7 a8 a9:Value} (h:w.heap[g]?=some (.cells #[a0,a1,a2,a3,a4,a5,a6,a7,a8,a9] t (0,0))) :
  (w.frozen? ⟨g,0,none⟩=false∧w.frozen? ⟨g,1,none⟩=false∧w.frozen? ⟨g,2,none⟩=false∧w.frozen? ⟨g,3,none⟩=false∧w.frozen? ⟨g,4,none⟩=false)∧(w.frozen? ⟨g,5,none⟩=false∧w.frozen? ⟨g,6,none⟩=false∧w.frozen? ⟨g,7,none⟩=false∧w.frozen? ⟨g,8,none⟩=false∧w.frozen? ⟨g,9,none⟩=false) :=
 ⟨⟨(blk_cells h 0).2,(blk_cells h 1).2,(blk_cells h 2).2,(blk_cells h 3).2,(blk_cells h 4).2⟩,(blk_cells h 5).2,(blk_cells h 6).2,(blk_cells h 7).2,(blk_cells h 8).2,(blk_cells h 9).2⟩
structure MkW (w:World) (lo hi:Nat) (A1:Option Addr) (c1 n1:Nat) (A2:Option Addr) (c2 n2:Nat) (A3:Option Addr) (c3 n3:Nat) (A4:Option Addr) (c4:Nat) (A5:Option Addr) (c5 n5:Nat) (P:List PItem) (k:Int):Prop where
 all:∃ l1 h1 l2 h2 l3 L,MkDW w l1 h1 A1 c1 n1 A2 c2 n2 A3 c3 n3 k∧plI L=P∧OwnItems w l2 h2 A4 P.length c4 (mksI (k+n1+n2+7 * (n3:Int)) L)∧w.ownsRow l3 105 3 (.slice A5 n5 c5) n5 (marksPaper (k+n1+n2+7 * (n3:Int)+(cntI P:Int)) n5)
section
variable {lo hi:Nat} {w w':World} {A1 A2 A3 A4 A5:Option Addr} {c1 c2 c3 c4 c5 n1 n2 n3 n5:Nat} {P:List PItem} {k:Int}
end
open Go.ChangeShapes Go.WideShapes Go.ChangeAt Go.RowKit
set_option linter.unusedVariables false
set_option linter.unusedSimpArgs false
set_option maxRecDepth 10000
def paperOk (K W H:Int):Bool:=inB K 0 9&&(inB W 40 400&&inB H 0 100000)
theorem i_PaperOk (K W H:Int) (w:World) :
  Calls Tryz.prog 116 #[.agg #[.int .i64 K,.int .i64 W,.int .i64 H]] w fun e w'=>e=.returned (.bool (paperOk K W H))∧Below w.heap.size w w':=by
 cases h1:inB K 0 9
 ·have HR:Hid (paperOk K W H=false):=by unfold Hid paperOk;rw [h1];rfl
  go_enter Tryz.func116,Tryz.ntmps116
  go_wp2_with (go_at_call 71;refine (i_within _ _ _ _).mono ?_;rintro e w' ⟨rfl,rfl⟩)
  go_ret
  exact ⟨ret_bool HR.out.symm,bel⟩
 ·cases h2:inB W 40 400
  ·have HR:Hid (paperOk K W H=false):=by unfold Hid paperOk;rw [h1,h2];rfl
   go_enter Tryz.func116,Tryz.ntmps116
   go_wp2_with (go_at_call 71;refine (i_within _ _ _ _).mono ?_;rintro e w' ⟨rfl,rfl⟩)
   go_ret
   exact ⟨ret_bool HR.out.symm,bel⟩
  ·have HR:Hid (paperOk K W H=inB H 0 100000):=by unfold Hid paperOk;rw [h1,h2];rfl
   go_enter Tryz.func116,Tryz.ntmps116
   go_wp2_with (go_at_call 71;refine (i_within _ _ _ _).mono ?_;rintro e w' ⟨rfl,rfl⟩)
   go_ret
   exact ⟨ret_bool HR.out.symm,bel⟩
theorem s_PaperOk (K W H:Int) (w:World) :
  Calls Tryz.prog 149 #[.agg #[.int .i64 K,.int .i64 W,.int .i64 H]] w fun e w'=>e=.returned (.bool (paperOk K W H))∧Below w.heap.size w w':=by
 cases h1:inB K 0 9
 ·have HR:Hid (paperOk K W H=false):=by unfold Hid paperOk;rw [h1];rfl
  go_enter Tryz.func149,Tryz.ntmps149
  go_wp2_with (go_at_call 95;refine (s_l01In _ _ _ _).mono ?_;rintro e w' ⟨rfl,rfl⟩)
  go_ret
  exact ⟨ret_bool HR.out.symm,bel⟩
 ·cases h2:inB W 40 400
  ·have HR:Hid (paperOk K W H=false):=by unfold Hid paperOk;rw [h1,h2];rfl
   go_enter Tryz.func149,Tryz.ntmps149
   go_wp2_with (go_at_call 95;refine (s_l01In _ _ _ _).mono ?_;rintro e w' ⟨rfl,rfl⟩)
   go_ret
   exact ⟨ret_bool HR.out.symm,bel⟩
  ·have HR:Hid (paperOk K W H=inB H 0 100000):=by unfold Hid paperOk;rw [h1,h2];rfl
   go_enter Tryz.func149,Tryz.ntmps149
   go_wp2_with (go_at_call 95;refine (s_l01In _ _ _ _).mono ?_;rintro e w' ⟨rfl,rfl⟩)
   go_ret
   exact ⟨ret_bool HR.out.symm,bel⟩
def papOk (l:List PPaper):Bool:=l.all fun p=>paperOk p.k p.g p.s
def papGood (l:List PPaper) (j:Nat):Prop:=∀ i,i<j→∀ p,l[i]?=some p→paperOk p.k p.g p.s=true
theorem papGood_zero (l:List PPaper):papGood l 0:=fun i hi=>absurd hi (by omega)
theorem papGood_succ {l:List PPaper} {j:Nat} {p:PPaper} (h:papGood l j) (hx:l[j]?=some p) (hn:paperOk p.k p.g p.s=true):papGood l (j+1):=by
 intro i hi y hy
 rcases Nat.lt_or_ge i j with h1|h1
 ·exact h i h1 y hy
 ·have:i=j:=by omega
  subst this
  rw [hx] at hy;injection hy with hy;subst hy;exact hn
theorem papOk_no {l:List PPaper} {j:Nat} {p:PPaper} (hx:l[j]?=some p) (hn:paperOk p.k p.g p.s=false):papOk l=false:=by
 unfold papOk
 rw [List.all_eq_false]
 exact ⟨p,List.mem_of_getElem? hx,by rw [hn];decide⟩
theorem papOk_yes {l:List PPaper} (h:papGood l l.length):papOk l=true:=by
 unfold papOk
 rw [List.all_eq_true]
 intro p hp
 obtain ⟨i,hi,rfl⟩:=List.getElem_of_mem hp
 exact h i hi _ (List.getElem?_eq_getElem hi)
theorem c_arePapers1 (K W H:Int) (w:World) :
  Calls Tryz.prog 115 #[.agg #[.int .i64 K,.int .i64 W,.int .i64 H]] w fun e w'=>e=.returned (.bool (!paperOk K W H))∧Below w.heap.size w w':=by
 cases h:paperOk K W H
 ·have HC:=Lib.hid h
  clear h
  go_enter Tryz.func115,Tryz.ntmps115
  go_wp2_with (go_at_call 116;refine (i_PaperOk _ _ _ _).mono ?_;rw [HC.out];rintro e w1 ⟨rfl,hb1⟩)
  go_ret
  exact ⟨rfl,bel⟩
 ·have HC:=Lib.hid h
  clear h
  go_enter Tryz.func115,Tryz.ntmps115
  go_wp2_with (go_at_call 116;refine (i_PaperOk _ _ _ _).mono ?_;rw [HC.out];rintro e w1 ⟨rfl,hb1⟩)
  go_ret
  exact ⟨rfl,bel⟩
theorem idxPap (pp:List PPaper) (B:Nat) (A:Option Addr) (n c:Nat) (w:World) (hS:Papers w B A n pp) (hB:B≤w.heap.size) :
  Calls Tryz.prog 163 #[.slice A n c,.func (.func 115) #[] #[]] w fun e w'=>(∃ x:Int,e=.returned (.int .i64 x)∧(decide (0≤x))=!papOk pp)∧Below w.heap.size w w':=by
 have hn:=hS.nb
 have hl:=hS.len
 have HL:=Lib.hid hl
 clear hl
 go_enter Tryz.func163,Tryz.ntmps163
 go_wp2
 go_loopw [5,8] (fun x i wr=>∃ j:Nat,j≤n∧i=.int .i64 j∧Hid (papGood pp j)∧Below w.heap.size w wr) (fun _ i _=>n - (intOf i).toNat)
 case atStart=>exact ⟨0,Nat.zero_le _,rfl,papGood_zero _,Below.refl _ _⟩
 case round =>
  obtain ⟨j,hj,rfl,HN,hb⟩:=hrel
  have hzr:=hb.size
  by_cases hltn:j<n
  ·obtain ⟨hk1,ad,rfl,hab,hc0,hc1,hc2⟩:=(hS.below (hb.mono hB)).at_ hltn
   have HX:=Lib.hid (show pp[j]?=some pp[j] from List.getElem?_eq_getElem hk1)
   generalize pp[j]=r at *
   have hcon:=c_arePapers1 r.k r.g r.s wr
   cases hq:paperOk r.k r.g r.s
   ·have HF:Hid ((decide (0≤(j:Int)))=!papOk pp):=by unfold Hid;rw [papOk_no HX.out hq];simp
    rw [hq] at hcon
    have HC:=hide hcon
    clear hq hcon
    go_wp2_with (go_at_call 115;refine (unhide HC).mono ?_;rintro e w1 ⟨rfl,hb1⟩)
    go_ret
    exact ⟨⟨_,rfl,HF.out⟩,bel⟩
   ·have HS:=Lib.hid (papGood_succ HN.out HX.out hq)
    rw [hq] at hcon
    have HC:=hide hcon
    clear hq hcon
    go_wp2_with (go_at_call 115;refine (unhide HC).mono ?_;rintro e w1 ⟨rfl,hb1⟩)
    go_roundw
    case rel=>exact ⟨j+1,by omega,by go_num,HS.out,bel⟩
    case measure=>simp [intOf];omega
  ·have hjn:j=n:=by omega
   have HF:Hid ((decide (0≤(-1:Int)))=!papOk pp):=by unfold Hid;rw [papOk_yes (by rw [HL.out,← hjn];exact HN.out)];decide
   clear hjn
   go_wp2
   go_ret
   exact ⟨⟨_,rfl,HF.out⟩,hb⟩
theorem i_arePapers (pp:List PPaper) (B:Nat) (A:Option Addr) (n c:Nat) (w:World) (hS:Papers w B A n pp) (hB:B≤w.heap.size) :
  Calls Tryz.prog 67 #[.slice A n c] w fun e w'=>e=.returned (.bool (papOk pp))∧Below w.heap.size w w':=by
 have hcon:∀ (W:World),Below w.heap.size w W→Calls Tryz.prog 114 #[.slice A n c,.func (.func 115) #[] #[]] W fun e w'=>e=.returned (.bool (!papOk pp))∧Below W.heap.size W w':=by
  intro W hW
  have hix:=idxPap pp B A n c W (hS.below (hW.mono hB)) (Nat.le_trans hB hW.size)
  have HIX:=hide hix
  clear hix
  go_enter Tryz.func114,Tryz.ntmps114
  go_wp2_with (go_at_call 163;refine (unhide HIX).mono ?_;rintro e w1 ⟨⟨x,rfl,hx⟩,hb1⟩;have HX:=Lib.hid hx;clear hx)
  go_ret
  exact ⟨ret_bool HX.out,hb1⟩
 have HC:=hide hcon
 clear hcon
 cases hp:papOk pp
 ·rw [hp] at HC
  clear hp
  go_enter Tryz.func67,Tryz.ntmps67
  go_wp2_with (go_at_call 114;refine (unhide HC _ (Below.refl _ _)).mono ?_;rintro e w1 ⟨rfl,hb1⟩)
  go_ret
  exact ⟨rfl,hb1⟩
 ·rw [hp] at HC
  clear hp
  go_enter Tryz.func67,Tryz.ntmps67
  go_wp2_with (go_at_call 114;refine (unhide HC _ (Below.refl _ _)).mono ?_;rintro e w1 ⟨rfl,hb1⟩)
  go_ret
  exact ⟨rfl,hb1⟩
theorem s_l23Ok (pp:List PPaper) (B:Nat) (A:Option Addr) (n c:Nat) (w:World) (hS:Papers w B A n pp) (hB:B≤w.heap.size) :
  Calls Tryz.prog 94 #[.slice A n c] w fun e w'=>e=.returned (.bool (papOk pp))∧Below w.heap.size w w':=by
 have hn:=hS.nb
 have hl:=hS.len
 have HL:=Lib.hid hl
 clear hl
 go_enter Tryz.func94,Tryz.ntmps94
 go_wp2
 go_loopw [3] (fun i wr=>∃ j:Nat,j≤n∧i=.int .i64 j∧Hid (papGood pp j)∧Below w.heap.size w wr) (fun i _=>n - (intOf i).toNat)
 case atStart=>exact ⟨0,Nat.zero_le _,rfl,papGood_zero _,Below.refl _ _⟩
 case round =>
  obtain ⟨j,hj,rfl,HN,hb⟩:=hrel
  have hzr:=hb.size
  by_cases hltn:j<n
  ·obtain ⟨hk1,ad,rfl,hab,hc0,hc1,hc2⟩:=(hS.below (hb.mono hB)).at_ hltn
   have HX:=Lib.hid (show pp[j]?=some pp[j] from List.getElem?_eq_getElem hk1)
   generalize pp[j]=r at *
   have hcon:=s_PaperOk r.k r.g r.s wr
   cases hq:paperOk r.k r.g r.s
   ·have HF:=Lib.hid (papOk_no HX.out hq)
    rw [hq] at hcon
    have HC:=hide hcon
    clear hq hcon
    go_wp2_with (go_at_call 149;refine (unhide HC).mono ?_;rintro e w1 ⟨rfl,hb1⟩)
    go_ret
    exact ⟨ret_bool HF.out.symm,bel⟩
   ·have HS:=Lib.hid (papGood_succ HN.out HX.out hq)
    rw [hq] at hcon
    have HC:=hide hcon
    clear hq hcon
    go_wp2_with (go_at_call 149;refine (unhide HC).mono ?_;rintro e w1 ⟨rfl,hb1⟩)
    go_roundw
    case rel=>exact ⟨j+1,by omega,by go_num,HS.out,bel⟩
    case measure=>simp [intOf];omega
  ·have hjn:j=n:=by omega
   have HF:=Lib.hid (papOk_yes (l:=pp) (by rw [HL.out,← hjn];exact HN.out))
   clear hjn
   go_wp2
   go_ret
   exact ⟨ret_bool HF.out.symm,hb⟩
theorem paperCells_one (l:List PPaper):∀ u∈l.flatMap paperCells,u.oneCell'=true:=by
 intro u hu
 obtain ⟨s,_,h⟩:=List.mem_flatMap.1 hu
 simp [paperCells] at h
 rcases h with rfl|rfl|rfl <;> rfl
theorem fresh_papers {base n:Nat} {v:Value} {l:List PPaper} {w w':World} (hl:l.length=n) (ho:w'.ownsRow base 105 3 v n (l.flatMap paperCells)) (hb:Below w.heap.size w w'):FreshPapers base l w (.returned v) w':=by
 subst hl
 obtain ⟨A,c,rfl⟩:=own_slice ho
 exact ⟨A,c,rfl,ho,hb⟩
theorem clone_paper (B:Nat) (A:Option Addr) (n c:Nat) (l:List PPaper) (w:World) (hS:Papers w B A n l) (hB:B≤w.heap.size) :
  Calls Tryz.prog 86 #[.slice A n c] w (FreshPapers w.heap.size l w):=by
 have hn:=hS.nb
 have hl:=hS.len
 have hR:=hS.rd
 rcases A with _|ad
 ·have hn0:n=0:=by
   rcases Nat.eq_zero_or_pos n with h0|h0
   ·exact h0
   ·obtain ⟨_,ad,h,_⟩:=hS.at_ h0;cases h
  subst hn0
  have hs0:l=[]:=List.eq_nil_of_length_eq_zero hl
  subst hs0
  have hnil:=fun W=>Lib.run_eql_slice_nil (P:=Tryz.prog) W 31
  clear hl
  go_enter Tryz.func86,Tryz.ntmps86
  go_wp2
  go_ret
  exact ⟨none,0,rfl,World.ownsRow_nil w _ _ _,Below.refl _ _⟩
 ·have hnil:=fun W=>Lib.run_eql_slice_nil (P:=Tryz.prog) W 31
  obtain ⟨i0,hi0,hz0,hz1,hz2⟩:=info_parts info_paperCells
  have hown:(w.alloc (.cells #[] 105)).ownsRow w.heap.size 105 3 (.slice (some ⟨w.heap.size,0,none⟩) 0 0) 0 []:=World.ownsRow_made w #[] 0 (Nat.le_refl _) (by unfold maxLen;omega) rfl
  have hR1:=hR.alloc hB (.cells #[] 105)
  have hone:=paperCells_one l
  have HL:=Lib.hid hl
  have HONE:=hide hone
  clear hl hone
  go_enter Tryz.func86,Tryz.ntmps86
  go_wp2_with (at_builtin;refine wpList_append_N _ rfl (.tmp 5) (.tmp 6) _ rfl w.heap.size 105 i0 _ 3 24 Tryz.underlying31 hi0 hz0 hz1 hz2 rfl (by omega) (.slice (some ⟨w.heap.size,0,none⟩) 0 0) 0 [] rfl hown B (some ad) n c (l.flatMap paperCells) rfl hR1 (unhide HONE) ?_ ?_ ?_ n _ (by omega) (List.nil_append _) ?_;(unfold maxLen;omega);omega;(simp);intro A1 c1 w1 hown1 hb1)
  have hfr:=fresh_papers (l:=l) (n:=n) HL.out hown1 (((Below.refl w.heap.size w).alloc (Nat.le_refl _) _).trans hb1)
  have HFR:=hide hfr
  clear hfr hown1
  go_ret
  exact (unhide HFR)
def zPap:PPaper:=⟨0,0,0⟩
def pAt (pp:List PPaper) (j:Nat):PPaper:=pp.getD j zPap
theorem pAt_get (pp:List PPaper) (j:Nat) (h:j<pp.length):pAt pp j=pp[j]:=by unfold pAt;simp [List.getD,h]
def sumK (pp:List PPaper) (K:Int):Nat→Int
 |0=>0
 |j+1=>if (pAt pp j).k=K then sumK pp K j+(pAt pp j).s else sumK pp K j
theorem sumK_yes {pp:List PPaper} {K:Int} {j:Nat} (h:j<pp.length) (hk:pp[j].k=K):sumK pp K (j+1)=sumK pp K j+pp[j].s:=by
 show (if (pAt pp j).k=K then _ else _)=_
 rw [pAt_get pp j h,if_pos hk]
theorem sumK_no {pp:List PPaper} {K:Int} {j:Nat} (h:j<pp.length) (hk:¬pp[j].k=K):sumK pp K (j+1)=sumK pp K j:=by
 show (if (pAt pp j).k=K then _ else _)=_
 rw [pAt_get pp j h,if_neg hk]
theorem papOk_at {pp:List PPaper} (h:papOk pp=true) {p:PPaper} (hp:p∈pp):(0≤p.k∧p.k≤9)∧(40≤p.g∧p.g≤400)∧0≤p.s∧p.s≤100000:=by
 unfold papOk at h
 rw [List.all_eq_true] at h
 have:=h p hp
 unfold paperOk at this
 simp only [Bool.and_eq_true,inB_iff'] at this
 exact ⟨this.1,this.2.1,this.2.2⟩
theorem sumK_bd {pp:List PPaper} (h:papOk pp=true) (K:Int):∀ j,j≤pp.length→0≤sumK pp K j∧sumK pp K j≤100000 * (j:Int)
 |0,_=>by show (0:Int)≤0∧(0:Int)≤_;omega
 |j+1,hj=>by
  have h1:=sumK_bd h K j (by omega)
  have h2:=papOk_at h (List.getElem_mem (show j<pp.length by omega))
  by_cases hk:pp[j].k=K
  ·rw [sumK_yes (by omega) hk];omega
  ·rw [sumK_no (by omega) hk];omega
def sheetsL (pp:List PPaper) (K:Int):Int:=if papOk pp=true then sumK pp K pp.length else 0
theorem sheetsL_no {pp:List PPaper} {K:Int} (h:papOk pp=false):sheetsL pp K=0:=by unfold sheetsL;rw [h];rfl
theorem sheetsL_yes {pp:List PPaper} {K:Int} (h:papOk pp=true):sheetsL pp K=sumK pp K pp.length:=by unfold sheetsL;rw [if_pos h]
theorem i_SheetsLeft (pp:List PPaper) (K:Int) (B:Nat) (A:Option Addr) (n c:Nat) (w:World) (hS:Papers w B A n pp) (hB:B≤w.heap.size) :
  Calls Tryz.prog 27 #[.slice A n c,.int .i64 K] w fun e w'=>e=.returned (.int .i64 (sheetsL pp K))∧Below w.heap.size w w':=by
 have hn:=hS.nb
 have hl:=hS.len
 have hap:=i_arePapers pp B A n c w hS hB
 cases hp:papOk pp
 ·rw [hp] at hap
  have HAP:=hide hap
  have HR:=Lib.hid (sheetsL_no (K:=K) hp)
  clear hap hp hl
  go_enter Tryz.func27,Tryz.ntmps27
  go_wp2_with (go_at_call 67;refine (unhide HAP).mono ?_;rintro e w1 ⟨rfl,hb1⟩)
  go_ret
  exact ⟨ret_int HR.out.symm,hb1⟩
 ·have HP:=Lib.hid hp
  have hbd:=fun j (h:j≤n)=>sumK_bd hp K j (by omega)
  rw [hp] at hap
  have HAP:=hide hap
  have HR:=Lib.hid (sheetsL_yes (K:=K) hp)
  have HL:=Lib.hid hl
  have HBD:=hide hbd
  clear hap hp hl hbd
  go_enter Tryz.func27,Tryz.ntmps27
  go_wp2_with (go_at_call 67;refine (unhide HAP).mono ?_;rintro e w1 ⟨rfl,hb1⟩)
  go_loopw [5,13] (fun q i wr=>∃ (j:Nat) (x:Int),j≤n∧i=.int .i64 j∧q=.int .i64 x∧Hid (x=sumK pp K j)∧Below w.heap.size w wr) (fun _ i _=>n - (intOf i).toNat)
  case atStart=>exact ⟨0,0,Nat.zero_le _,rfl,rfl,rfl,hb1⟩
  case round =>
   obtain ⟨j,x,hj,rfl,rfl,HX,hb⟩:=hrel
   have hzr:=hb.size
   have hx:=(unhide HBD) j hj
   rw [← HX.out] at hx
   by_cases hlt:j<n
   ·obtain ⟨hk1,ad,rfl,hab,hc0,hc1,hc2⟩:=(hS.below (hb.mono hB)).at_ hlt
    have hpb:=papOk_at HP.out (List.getElem_mem hk1)
    have hwx:IntKind.i64.wrap (x+pp[j].s)=x+pp[j].s:=by rw [IntKind.wrap_i64];omega
    by_cases hk:pp[j].k=K
    ·have HS:=Lib.hid (sumK_yes hk1 hk)
     go_wp2
     go_roundw
     case rel=>exact ⟨j+1,x+pp[j].s,by omega,by go_num,rfl,by unfold Hid;rw [HS.out,HX.out],bel⟩
     case measure=>simp [intOf];omega
    ·have HS:=Lib.hid (sumK_no hk1 hk)
     go_wp2
     go_roundw
     case rel=>exact ⟨j+1,x,by omega,by go_num,rfl,by unfold Hid;rw [HS.out,HX.out],bel⟩
     case measure=>simp [intOf];omega
   ·have hjn:j=n:=by omega
    have HF:Hid (x=sheetsL pp K):=by unfold Hid;rw [HR.out,HX.out,HL.out,hjn]
    clear hjn
    go_wp2
    go_ret
    exact ⟨ret_int HF.out,hb⟩
def useN (pp:List PPaper) (K x:Int):Nat→List PPaper×Int
 |0=>(pp,x)
 |j+1=>if (pAt pp j).k=K then ((useN pp K x j).1.set j ⟨(pAt pp j).k,(pAt pp j).g,(pAt pp j).s - min (pAt pp j).s (useN pp K x j).2⟩,(useN pp K x j).2 - min (pAt pp j).s (useN pp K x j).2) else useN pp K x j
theorem useN_yes {pp:List PPaper} {K x:Int} {j:Nat} (h:j<pp.length) (hk:pp[j].k=K):useN pp K x (j+1)=((useN pp K x j).1.set j ⟨pp[j].k,pp[j].g,pp[j].s - min pp[j].s (useN pp K x j).2⟩,(useN pp K x j).2 - min pp[j].s (useN pp K x j).2):=by
 show (if (pAt pp j).k=K then _ else _)=_
 rw [pAt_get pp j h,if_pos hk]
theorem useN_no {pp:List PPaper} {K x:Int} {j:Nat} (h:j<pp.length) (hk:¬pp[j].k=K):useN pp K x (j+1)=useN pp K x j:=by
 show (if (pAt pp j).k=K then _ else _)=_
 rw [pAt_get pp j h,if_neg hk]
theorem useN_len (pp:List PPaper) (K x:Int):∀ j,(useN pp K x j).1.length=pp.length
 |0=>rfl
 |j+1=>by
  show (if (pAt pp j).k=K then _ else _:List PPaper×Int).1.length=_
  split
  ·simp [useN_len pp K x j]
  ·exact useN_len pp K x j
theorem useN_get (pp:List PPaper) (K x:Int):∀ j i,j≤i→(useN pp K x j).1[i]?=pp[i]?
 |0,_,_=>rfl
 |j+1,i,h=>by
  show (if (pAt pp j).k=K then _ else _:List PPaper×Int).1[i]?=_
  split
  ·simp only [List.getElem?_set_ne (show j≠i by omega)]
   exact useN_get pp K x j i (by omega)
  ·exact useN_get pp K x j i (by omega)
theorem useN_bd {pp:List PPaper} (hp:papOk pp=true) (K:Int) {x:Int} (hx:0≤x):∀ j,j≤pp.length→0≤(useN pp K x j).2∧(useN pp K x j).2≤x
 |0,_=>by show 0≤x∧x≤x;omega
 |j+1,h=>by
  have h1:=useN_bd hp K hx j (by omega)
  have h2:=papOk_at hp (List.getElem_mem (show j<pp.length by omega))
  by_cases hk:pp[j].k=K
  ·rw [useN_yes (by omega) hk];simp only;omega
  ·rw [useN_no (by omega) hk];exact h1
theorem useN_ok {pp:List PPaper} (hp:papOk pp=true) (K:Int) {x:Int} (hx:0≤x):∀ j,j≤pp.length→papOk (useN pp K x j).1=true
 |0,_=>hp
 |j+1,h=>by
  have h0:=useN_ok hp K hx j (by omega)
  have h1:=useN_bd hp K hx j (by omega)
  have h2:=papOk_at hp (List.getElem_mem (show j<pp.length by omega))
  by_cases hk:pp[j].k=K
  ·rw [useN_yes (by omega) hk]
   unfold papOk at h0 ⊢
   rw [List.all_eq_true] at h0 ⊢
   intro p hpm
   rcases List.mem_or_eq_of_mem_set hpm with hm|rfl
   ·exact h0 p hm
   ·unfold paperOk
    simp only [Bool.and_eq_true,inB_iff']
    refine ⟨h2.1,h2.2.1,?_⟩
    omega
  ·rw [useN_no (by omega) hk];exact h0
def useRes (pp:List PPaper) (K x:Int):List PPaper×Bool :=
 if pp.length≤20∧papOk pp=true∧0≤x∧x≤sheetsL pp K then ((useN pp K x pp.length).1,true) else (pp,false)
theorem useRes_no {pp:List PPaper} {K x:Int} (h:¬(pp.length≤20∧papOk pp=true∧0≤x∧x≤sheetsL pp K)):useRes pp K x=(pp,false):=if_neg h
theorem useRes_yes {pp:List PPaper} {K x:Int} (h1:pp.length≤20) (h2:papOk pp=true) (h3:0≤x) (h4:x≤sheetsL pp K):useRes pp K x=((useN pp K x pp.length).1,true):=if_pos ⟨h1,h2,h3,h4⟩
theorem useRes_len (pp:List PPaper) (K x:Int):(useRes pp K x).1.length=pp.length:=by
 unfold useRes
 split
 ·exact useN_len _ _ _ _
 ·rfl
theorem useRes_pap {pp:List PPaper} {K x:Int} (h:(useRes pp K x).2=true):papOk (useRes pp K x).1=true∧pp.length≤20:=by
 unfold useRes at *
 split at h
 ·rename_i hc
  rw [if_pos hc]
  exact ⟨useN_ok hc.2.1 _ hc.2.2.1 _ (Nat.le_refl _),hc.1⟩
 ·cases h
theorem set_sheets (l:List PPaper) (j:Nat) (h:j<l.length) (v:Int):(l.flatMap paperCells).set (j * 3+2) (.int .i64 v)=(l.set j ⟨l[j].k,l[j].g,v⟩).flatMap paperCells:=by
 have h1:l=l.take j++l[j] :: l.drop (j+1):=by rw [← List.drop_eq_getElem_cons h,List.take_append_drop]
 have h2:l.set j ⟨l[j].k,l[j].g,v⟩=l.take j++(⟨l[j].k,l[j].g,v⟩:PPaper) :: l.drop (j+1):=by rw [List.set_eq_take_append_cons_drop,if_pos h]
 rw [h2]
 conv=>lhs;rw [h1]
 simp only [List.flatMap_append,List.flatMap_cons]
 have hlen:((l.take j).flatMap paperCells).length=j * 3:=by rw [flat_len paperCells_len,List.length_take,Nat.min_eq_left (by omega)]
 rw [List.set_append_right _ _ (by omega),hlen]
 simp [paperCells]
def UPapB (pp:List PPaper) (b:Bool) (w:World) (e:Ending) (w':World):Prop :=
 ∃ A c,e=.returned (.tuple #[.slice A pp.length c,.bool b])∧OwnP w' w.heap.size w'.heap.size A c pp∧Below w.heap.size w w'
theorem upap_cast {pp:List PPaper} {b:Bool} {q:List PPaper×Bool} {w w':World} {e:Ending} (h:q=(pp,b)) (hu:UPapB pp b w e w'):UPapB q.1 q.2 w e w':=by subst h;exact hu
theorem i_UsePaper (pp:List PPaper) (K x:Int) (B:Nat) (A:Option Addr) (c:Nat) (w:World) (hS:Papers w B A pp.length pp) (hB:B≤w.heap.size) :
  Calls Tryz.prog 198 #[.slice A pp.length c,.int .i64 K,.int .i64 x] w (UPapB (useRes pp K x).1 (useRes pp K x).2 w):=by
 obtain ⟨n,hnn⟩:∃ n,n=pp.length:=⟨_,rfl⟩
 have hcl:=clone_paper B A pp.length c pp w hS hB
 have hap:=fun (W:World) (hW:Below w.heap.size w W)=>i_arePapers pp B A pp.length c W (hS.below (hW.mono hB)) (Nat.le_trans hB hW.size)
 have hsl:=fun (W:World) (hW:Below w.heap.size w W)=>i_SheetsLeft pp K B A pp.length c W (hS.below (hW.mono hB)) (Nat.le_trans hB hW.size)
 have hn:=hS.nb
 have hno:=fun h=>useRes_no (pp:=pp) (K:=K) (x:=x) h
 have hyes:=fun h1 h2 h3 h4=>useRes_yes (pp:=pp) (K:=K) (x:=x) h1 h2 h3 h4
 have HCL:=hide hcl
 have HAP:=hide hap
 have HSL:=hide hsl
 have HNO:=hide hno
 have HYES:=hide hyes
 have HNN:=Lib.hid hnn
 clear hcl hap hsl hno hyes hS
 by_cases h1:pp.length≤20
 ·cases h2:papOk pp
  ·have HR:=Lib.hid ((unhide HNO) (by rw [h2];simp))
   have H2:=Lib.hid h2
   clear h2
   go_enter Tryz.func198,Tryz.ntmps198
   go_wp2_with (first|(go_at_call 86;refine (unhide HCL).mono ?_;rintro e w1 ⟨A1,c1,rfl,ho1,hb1⟩)|(go_at_call 67;refine (unhide HAP _ hb1).mono ?_;rw [H2.out];rintro e w2 ⟨rfl,hb2⟩))
   refine bodyPost_ret (v:=.tuple #[.slice A1 pp.length c1,.bool false]) (by simp [results,Tryz.results198,go_sem, *]) rfl ?_
   exact upap_cast HR.out ⟨A1,c1,rfl,OwnP.of (own_below ho1 hb2) (by first|exact Nat.le_refl _|exact hb2.size),hb1.trans (hb2.mono hb1.size)⟩
  ·by_cases h3:0≤x
   ·by_cases h4:x≤sheetsL pp K
    ·have HR:=Lib.hid ((unhide HYES) h1 h2 h3 h4)
     have hbd:=fun j (hj:j≤n)=>useN_bd h2 K h3 j (by omega)
     have hlen:=fun j=>useN_len pp K x j
     have hget:=fun j=>useN_get pp K x j j (Nat.le_refl _)
     have hpo:=fun (p:PPaper) (hp:p∈pp)=>papOk_at h2 hp
     have hxb:x≤1677721600000:=by have h8:=sumK_bd h2 K pp.length (Nat.le_refl _);rw [sheetsL_yes h2] at h4;omega
     have H2:=Lib.hid h2
     have HBD:=hide hbd
     have HLEN:=hide hlen
     have HGET:=hide hget
     have HPO:=hide hpo
     clear h2 hbd hlen hget hpo
     generalize sheetsL pp K=sl at *
     have h4':¬sl<x:=by omega
     go_enter Tryz.func198,Tryz.ntmps198
     go_wp2_with (first|(go_at_call 86;refine (unhide HCL).mono ?_;rintro e w1 ⟨A1,c1,rfl,ho1,hb1⟩)|(go_at_call 67;refine (unhide HAP _ hb1).mono ?_;rw [H2.out];rintro e w2 ⟨rfl,hb2⟩)|(go_at_call 27;refine (unhide HSL _ (hb1.trans (hb2.mono hb1.size))).mono ?_;rintro e w3 ⟨rfl,hb3⟩))
     have hb123:Below w.heap.size w w3:=hb1.trans ((hb2.mono hb1.size).trans (hb3.mono (Nat.le_trans hb1.size hb2.size)))
     have ho3:=own_below (own_below ho1 hb2) hb3
     clear hb1 hb2 hb3 ho1
     go_loopw [2,36] (fun q i wr=>∃ (j:Nat) (y:Int) (l:List PPaper),j≤n∧i=.int .i64 j∧q=.int .i64 y∧Hid (useN pp K x j=(l,y))∧wr.ownsRow w.heap.size 105 3 (.slice A1 pp.length c1) pp.length (l.flatMap paperCells)∧Below w.heap.size w wr) (fun _ i _=>n - (intOf i).toNat)
     case atStart=>exact ⟨0,x,pp,Nat.zero_le _,rfl,rfl,rfl,ho3,hb123⟩
     case round =>
      obtain ⟨j,y,l,hj,rfl,rfl,HU,hown,hb⟩:=hrel
      have hzr:=hb.size
      have hyb:=(unhide HBD) j hj
      rw [HU.out] at hyb
      simp only at hyb
      by_cases hlt:j<n
      ·have hjp:j<pp.length:=by rw [← HNN.out];exact hlt
       have hll:l.length=pp.length:=by have:=(unhide HLEN) j;rw [HU.out] at this;exact this
       have hjl:j<l.length:=by omega
       have hlj:l[j]=pp[j]:=by
        have:=(unhide HGET) j
        rw [HU.out] at this
        simp only at this
        rw [List.getElem?_eq_getElem hjl,List.getElem?_eq_getElem hjp] at this
        injection this
       obtain ⟨g,cap,hv,hbg,hglt⟩:=hown.form (by omega)
       have hA:A1=some ⟨g,0,none⟩:=by injection hv
       subst hA
       clear hv
       have hcc:=fun i hi=>flat_get paperCells_len l j i hjl hi
       have hc0:wr.cell? ⟨g,j * 3,none⟩=some (.int .i64 pp[j].k):=by have:=hown.cellAt (j * 3) (by omega);rw [this,← hlj];exact hcc 0 (by omega)
       have hc1:wr.cell? ⟨g,j * 3+1,none⟩=some (.int .i64 pp[j].g):=by have:=hown.cellAt (j * 3+1) (by omega);rw [this,← hlj];exact hcc 1 (by omega)
       have hc2:wr.cell? ⟨g,j * 3+2,none⟩=some (.int .i64 pp[j].s):=by have:=hown.cellAt (j * 3+2) (by omega);rw [this,← hlj];exact hcc 2 (by omega)
       have hf2:=hown.frozenAt (j * 3+2)
       have hpb:=(unhide HPO) _ (List.getElem_mem hjp)
       have hw1:IntKind.i64.wrap (pp[j].s - min pp[j].s y)=pp[j].s - min pp[j].s y:=by rw [IntKind.wrap_i64];omega
       have hw2:IntKind.i64.wrap (y - min pp[j].s y)=y - min pp[j].s y:=by rw [IntKind.wrap_i64];omega
       have HSET:=hide (set_sheets l j hjl (pp[j].s - min pp[j].s y))
       have HLJ:=Lib.hid hlj
       clear hcc hll hlj
       by_cases hk:pp[j].k=K
       ·have HS:=Lib.hid (useN_yes (x:=x) hjp hk)
        go_wp2
        go_roundw
        case rel =>
         have hst:=hown.stored (j * 3+2) (.int .i64 (pp[j].s - min pp[j].s y))
         refine ⟨j+1,y - min pp[j].s y,l.set j ⟨pp[j].k,pp[j].g,pp[j].s - min pp[j].s y⟩,by omega,by go_num,rfl,?_,?_,?_⟩
         ·unfold Hid;rw [HS.out,HU.out]
         ·have h9:=hst.1
          rw [unhide HSET,HLJ.out] at h9
          exact h9.alloc _
         ·exact (hb.setCell (p:=⟨g,j * 3+2,none⟩) hbg _).alloc (by simp [World.setCell];omega) _
        case measure=>simp [intOf];omega
       ·have HS:=Lib.hid (useN_no (x:=x) hjp hk)
        go_wp2
        go_roundw
        case rel=>exact ⟨j+1,y,l,by omega,by go_num,rfl,by unfold Hid;rw [HS.out];exact HU.out,hown.alloc _,hb.alloc (by omega) _⟩
        case measure=>simp [intOf];omega
      ·have hjn:j=pp.length:=by have:=HNN.out;omega
       have HF:Hid (useRes pp K x=(l,true)):=by unfold Hid;rw [HR.out,← hjn,HU.out]
       have hll:l.length=pp.length:=by have:=(unhide HLEN) j;rw [HU.out] at this;exact this
       clear hjn
       go_wp2
       refine bodyPost_ret (v:=.tuple #[.slice A1 pp.length c1,.bool true]) (by simp [results,Tryz.results198,go_sem, *]) rfl ?_
       rw [← hll] at hown ⊢
       exact upap_cast HF.out ⟨A1,c1,rfl,OwnP.of hown (Nat.le_refl _),hb⟩
    ·have HR:=Lib.hid ((unhide HNO) (fun h=>h4 h.2.2.2))
     have H2:=Lib.hid h2
     clear h2
     generalize sheetsL pp K=sl at *
     have h4':sl<x:=by omega
     go_enter Tryz.func198,Tryz.ntmps198
     go_wp2_with (first|(go_at_call 86;refine (unhide HCL).mono ?_;rintro e w1 ⟨A1,c1,rfl,ho1,hb1⟩)|(go_at_call 67;refine (unhide HAP _ hb1).mono ?_;rw [H2.out];rintro e w2 ⟨rfl,hb2⟩)|(go_at_call 27;refine (unhide HSL _ (hb1.trans (hb2.mono hb1.size))).mono ?_;rintro e w3 ⟨rfl,hb3⟩))
     refine bodyPost_ret (v:=.tuple #[.slice A1 pp.length c1,.bool false]) (by simp [results,Tryz.results198,go_sem, *]) rfl ?_
     exact upap_cast HR.out ⟨A1,c1,rfl,OwnP.of (own_below (own_below ho1 hb2) hb3) (Nat.le_refl _),hb1.trans ((hb2.mono hb1.size).trans (hb3.mono (Nat.le_trans hb1.size hb2.size)))⟩
   ·have HR:=Lib.hid ((unhide HNO) (fun h=>h3 h.2.2.1))
    have H2:=Lib.hid h2
    have h3':x<0:=by omega
    clear h2
    go_enter Tryz.func198,Tryz.ntmps198
    go_wp2_with (first|(go_at_call 86;refine (unhide HCL).mono ?_;rintro e w1 ⟨A1,c1,rfl,ho1,hb1⟩)|(go_at_call 67;refine (unhide HAP _ hb1).mono ?_;rw [H2.out];rintro e w2 ⟨rfl,hb2⟩))
    refine bodyPost_ret (v:=.tuple #[.slice A1 pp.length c1,.bool false]) (by simp [results,Tryz.results198,go_sem, *]) rfl ?_
    exact upap_cast HR.out ⟨A1,c1,rfl,OwnP.of (own_below ho1 hb2) (by first|exact Nat.le_refl _|exact hb2.size),hb1.trans (hb2.mono hb1.size)⟩
 ·have HR:=Lib.hid ((unhide HNO) (fun h=>h1 h.1))
  have h1':(20:Int)<(pp.length:Int):=by omega
  go_enter Tryz.func198,Tryz.ntmps198
  go_wp2_with (first|(go_at_call 86;refine (unhide HCL).mono ?_;rintro e w1 ⟨A1,c1,rfl,ho1,hb1⟩))
  refine bodyPost_ret (v:=.tuple #[.slice A1 pp.length c1,.bool false]) (by simp [results,Tryz.results198,go_sem, *]) rfl ?_
  exact upap_cast HR.out ⟨A1,c1,rfl,OwnP.of ho1 (Nat.le_refl _),hb1⟩
end Go.Proofs.YtlimlolciekimaaGreatDoor
