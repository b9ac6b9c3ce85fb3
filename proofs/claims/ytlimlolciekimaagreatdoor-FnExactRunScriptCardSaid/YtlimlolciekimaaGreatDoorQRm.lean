/- Contracts of the program's and the reference's functions (UWork, Pap1, Pap2, Pap3, Pap4). -/
import Derived.Deep.RegionLaw
import Derived.Test.YtlimlolciekimaaGreatDoorRows
import Derived.Test.YtlimlolciekimaaGreatDoorQRf
import Derived.Test.YtlimlolciekimaaGreatDoorQRi
import Derived.Test.YtlimlolciekimaaGreatDoorQRb
import Derived.Test.YtlimlolciekimaaGreatDoorQRa
import Derived.Test.YtlimlolciekimaaGreatDoorQRc
namespace Go.Proofs.YtlimlolciekimaaGreatDoor
set_option maxHeartbeats 1600000
open Go.ChangeShapes Go.WideShapes Go.ChangeAt Go.RowKit
set_option linter.unusedVariables false
set_option linter.unusedSimpArgs false
set_option maxRecDepth 10000
structure ZbL (w:World) (lo hi:Nat) (A:Option Addr) (c:Nat) (l:List Zt):Prop where
 row:w.ownsRow lo 105 3 (.slice A l.length c) l.length (l.flatMap Zao)
 top:∀ k,(Value.slice A l.length c).ownBlock=some k→k<hi
section
variable {lo hi lo' hi':Nat} {w w':World} {A:Option Addr} {c:Nat} {l:List Zt}
theorem ZbL.within {a h:Nat} (ho:ZbL w lo hi A c l) (hW:Zcv a h w w') (hd:hi≤a∨h≤lo):ZbL w' lo hi A c l :=
 ⟨ZeE ho.row hW (fun k hk=>by have h1:=ho.top k hk;have h2:=(ho.row.lt k hk).1;omega),ho.top⟩
theorem ZbL.below (ho:ZbL w lo hi A c l) (hb:Below w.heap.size w w'):ZbL w' lo hi A c l:=⟨Zx ho.row hb,ho.top⟩
theorem ZbL.box {g:Nat} {cs:Array Value} {t:TypeId} {fr:Nat×Nat} (ho:ZbL w lo hi A c l) (hk:w.heap[g]?=some (.cells cs t fr)) (ht:t∉Zc9) (hg:w.grownBy w' (some g)):ZbL w' lo hi A c l:=⟨Zhv ho.row (by decide) hk ht hg,ho.top⟩
theorem ZbL.boxy (ho:ZbL w lo hi A c l) (h:Zj w w'):ZbL w' lo hi A c l:=⟨Ze9 ho.row (by decide) h,ho.top⟩
theorem ZbL.drew (ho:ZbL w lo hi A c l):ZbL w.drew lo hi A c l:=⟨ho.row,ho.top⟩
theorem ZbL.alloc (ho:ZbL w lo hi A c l) (o:Obj):ZbL (w.alloc o) lo hi A c l:=⟨ho.row.alloc _,ho.top⟩
theorem ZbL.of (ho:w.ownsRow lo 105 3 (.slice A l.length c) l.length (l.flatMap Zao)) (h:w.heap.size≤hi):ZbL w lo hi A c l:=⟨ho,fun k hk=>by have:=(ho.lt k hk).2;omega⟩
theorem ZbL.rd (ho:ZbL w lo hi A c l) (hn:l.length≤16777216):Zb4 w w.heap.size A l.length l:=⟨Zal.of_own ho.row,hn⟩
end
structure ZaI (D:Zd) (P:List Zr) (pp:List Zt) (m:Nat):Prop where
 d:Zdw D m
 i:ZbH P m
 p:pp.length≤m
theorem ZaI.more {D:Zd} {P:List Zr} {pp:List Zt} {m k:Nat} (h:ZaI D P pp m) (hk:m≤k):ZaI D P pp k:=⟨h.d.more hk,h.i.more hk,by have:=h.p;omega⟩
structure Zqo (w:World) (B:Nat) (A1 A2 A3 A4 A5:Option Addr) (D:Zd) (P:List Zr) (pp:List Zt):Prop where
 d:ZbY w B A1 A2 A3 D
 i:∃ L,plI L=P∧Zbi w B A4 P.length L
 p:Zb4 w B A5 pp.length pp
structure ZaF (w:World) (B:Nat) (A1 A2 A3 A4:Option Addr) (c4:Nat) (A5:Option Addr) (D:Zd) (P:List Zr) (pp:List Zt):Prop where
 d:ZbY w B A1 A2 A3 D
 i:∃ L,plI L=P∧Zbi w B A4 P.length L
 p:Zb4 w B A5 pp.length pp
 cap:P.length≤c4∧c4≤9223372036854775807∧(A4=none→c4=0)
section
variable {w w':World} {B B':Nat} {A1 A2 A3 A4 A5:Option Addr} {c4:Nat} {D:Zd} {P:List Zr} {pp:List Zt}
theorem ZaF.below (h:ZaF w B A1 A2 A3 A4 c4 A5 D P pp) (hb:Below B w w'):ZaF w' B A1 A2 A3 A4 c4 A5 D P pp:=⟨h.d.below hb,h.i.elim fun L q=>⟨L,q.1,q.2.below hb⟩,h.p.below hb,h.cap⟩
theorem ZaF.alloc (h:ZaF w B A1 A2 A3 A4 c4 A5 D P pp) (hB:B≤w.heap.size) (o:Obj):ZaF (w.alloc o) B A1 A2 A3 A4 c4 A5 D P pp:=⟨h.d.alloc hB o,h.i.elim fun L q=>⟨L,q.1,q.2.alloc hB o⟩,h.p.alloc hB o,h.cap⟩
end
theorem ZbV {w:World} {base n c size:Nat} {e:TypeId} {A:Option Addr} {xs:List Value} (h:w.ownsRow base e size (.slice A n c) n xs):n≤c∧c≤9223372036854775807∧(A=none→c=0):=by
 rcases h.2 with ⟨hv,h0⟩|⟨g',cap,cur,hv,_,_,h1,h2,_⟩
 ·injection hv with e1 _ e3;exact ⟨by omega,by omega,fun _=>e3⟩
 ·injection hv with e1 _ e3;subst e3;unfold maxLen at h2;exact ⟨h1,by omega,fun h=>by rw [e1] at h;cases h⟩
structure Zau (w:World) (lo hi:Nat) (A1:Option Addr) (c1:Nat) (A2:Option Addr) (c2:Nat) (A3:Option Addr) (c3:Nat) (A4:Option Addr) (c4:Nat) (A5:Option Addr) (c5:Nat) (D:Zd) (P:List Zr) (pp:List Zt):Prop where
 all:∃ l1 h1 l2 h2 l3 h3 L,(lo≤l1∧h1≤hi∧lo≤l2∧h2≤hi∧lo≤l3∧h3≤hi)∧((h1≤l2∨h2≤l1)∧(h1≤l3∨h3≤l1)∧(h2≤l3∨h3≤l2))∧ZbF w l1 h1 A1 c1 A2 c2 A3 c3 D∧plI L=P∧Zi w l2 h2 A4 P.length c4 L∧ZbL w l3 h3 A5 c5 pp
section
variable {lo hi lo' hi':Nat} {w w':World} {A1 A2 A3 A4 A5:Option Addr} {c1 c2 c3 c4 c5:Nat} {D:Zd} {P:List Zr} {pp:List Zt}
theorem Zau.mk3 {l1 h1 l2 h2 l3 h3:Nat} {L:List Zae} (hd:ZbF w l1 h1 A1 c1 A2 c2 A3 c3 D) (hp:plI L=P) (hi_:Zi w l2 h2 A4 P.length c4 L) (hpp:ZbL w l3 h3 A5 c5 pp) (hr:lo≤l1∧h1≤hi∧lo≤l2∧h2≤hi∧lo≤l3∧h3≤hi) (ha:(h1≤l2∨h2≤l1)∧(h1≤l3∨h3≤l1)∧(h2≤l3∨h3≤l2)):Zau w lo hi A1 c1 A2 c2 A3 c3 A4 c4 A5 c5 D P pp:=⟨⟨l1,h1,l2,h2,l3,h3,L,hr,ha,hd,hp,hi_,hpp⟩⟩
theorem Zau.within {l h:Nat} (ho:Zau w lo hi A1 c1 A2 c2 A3 c3 A4 c4 A5 c5 D P pp) (hW:Zcv l h w w') (hd:hi≤l∨h≤lo):Zau w' lo hi A1 c1 A2 c2 A3 c3 A4 c4 A5 c5 D P pp:=by
 obtain ⟨l1,h1,l2,h2,l3,h3,L,hr,ha,x,hp,y,z⟩:=ho.all
 exact .mk3 (x.within hW (by omega)) hp (y.within hW (by omega)) (z.within hW (by omega)) hr ha
theorem Zau.below (ho:Zau w lo hi A1 c1 A2 c2 A3 c3 A4 c4 A5 c5 D P pp) (hb:Below w.heap.size w w'):Zau w' lo hi A1 c1 A2 c2 A3 c3 A4 c4 A5 c5 D P pp:=by
 obtain ⟨l1,h1,l2,h2,l3,h3,L,hr,ha,x,hp,y,z⟩:=ho.all
 exact .mk3 (x.below hb) hp (y.below hb) (z.below hb) hr ha
theorem Zau.box {g:Nat} {cs:Array Value} {t:TypeId} {fr:Nat×Nat} (ho:Zau w lo hi A1 c1 A2 c2 A3 c3 A4 c4 A5 c5 D P pp) (hk:w.heap[g]?=some (.cells cs t fr)) (ht:t∉Zc9) (hg:w.grownBy w' (some g)):Zau w' lo hi A1 c1 A2 c2 A3 c3 A4 c4 A5 c5 D P pp:=by
 obtain ⟨l1,h1,l2,h2,l3,h3,L,hr,ha,x,hp,y,z⟩:=ho.all
 exact .mk3 (x.box hk ht hg) hp (y.box hk ht hg) (z.box hk ht hg) hr ha
theorem Zau.boxy (ho:Zau w lo hi A1 c1 A2 c2 A3 c3 A4 c4 A5 c5 D P pp) (h:Zj w w'):Zau w' lo hi A1 c1 A2 c2 A3 c3 A4 c4 A5 c5 D P pp:=by
 obtain ⟨l1,h1,l2,h2,l3,h3,L,hr,ha,x,hp,y,z⟩:=ho.all
 exact .mk3 (x.boxy h) hp (y.boxy h) (z.boxy h) hr ha
theorem Zau.drew (ho:Zau w lo hi A1 c1 A2 c2 A3 c3 A4 c4 A5 c5 D P pp):Zau w.drew lo hi A1 c1 A2 c2 A3 c3 A4 c4 A5 c5 D P pp:=by
 obtain ⟨l1,h1,l2,h2,l3,h3,L,hr,ha,x,hp,y,z⟩:=ho.all
 exact .mk3 x.drew hp y.drew z.drew hr ha
theorem Zau.alloc (ho:Zau w lo hi A1 c1 A2 c2 A3 c3 A4 c4 A5 c5 D P pp) (o:Obj):Zau (w.alloc o) lo hi A1 c1 A2 c2 A3 c3 A4 c4 A5 c5 D P pp:=by
 obtain ⟨l1,h1,l2,h2,l3,h3,L,hr,ha,x,hp,y,z⟩:=ho.all
 exact .mk3 (x.alloc o) hp (y.alloc o) (z.alloc o) hr ha
theorem Zau.wide (ho:Zau w lo hi A1 c1 A2 c2 A3 c3 A4 c4 A5 c5 D P pp) (k1:lo'≤lo) (k2:hi≤hi'):Zau w lo' hi' A1 c1 A2 c2 A3 c3 A4 c4 A5 c5 D P pp:=by
 obtain ⟨l1,h1,l2,h2,l3,h3,L,hr,ha,x,hp,y,z⟩:=ho.all
 exact .mk3 x hp y z (by omega) ha
theorem Zau.rd (ho:Zau w lo hi A1 c1 A2 c2 A3 c3 A4 c4 A5 c5 D P pp) (hk:ZaI D P pp 16777216):ZaF w w.heap.size A1 A2 A3 A4 c4 A5 D P pp:=by
 obtain ⟨l1,h1,l2,h2,l3,h3,L,hr,ha,x,hp,y,z⟩:=ho.all
 exact ⟨x.rd hk.d,⟨L,hp,y.rdP hp hk.i⟩,z.rd hk.p,ZbV y.row⟩
end
def ZiA (d1 f1:Int) (ss1:List ByteArray) (d2 f2:Int) (ss2:List ByteArray) (st:List Zv) (P:List Zr) (pp:List Zt) (m:Int) (w:World) (e:Ending) (w':World):Prop :=
 ∃ B1 e1 B2 e2 B3 e3 B4 e4 B5 e5,e=.returned (.agg #[.int .i64 d1,.int .i64 f1,.slice B1 ss1.length e1,.int .i64 d2,.int .i64 f2,.slice B2 ss2.length e2,.slice B3 st.length e3,.slice B4 P.length e4,.slice B5 pp.length e5,.int .i64 m])∧Zau w' w.heap.size w'.heap.size B1 e1 B2 e2 B3 e3 B4 e4 B5 e5 ⟨d1,f1,ss1,d2,f2,ss2,st⟩ P pp∧Below w.heap.size w w'
def Zcm (d1 f1:Int) (ss1:List ByteArray) (d2 f2:Int) (ss2:List ByteArray) (st:List Zv) (P:List Zr) (pp:List Zt) (m:Int) (b:Bool) (w:World) (e:Ending) (w':World):Prop :=
 ∃ B1 e1 B2 e2 B3 e3 B4 e4 B5 e5,e=.returned (.tuple #[.agg #[.int .i64 d1,.int .i64 f1,.slice B1 ss1.length e1,.int .i64 d2,.int .i64 f2,.slice B2 ss2.length e2,.slice B3 st.length e3,.slice B4 P.length e4,.slice B5 pp.length e5,.int .i64 m],.bool b])∧Zau w' w.heap.size w'.heap.size B1 e1 B2 e2 B3 e3 B4 e4 B5 e5 ⟨d1,f1,ss1,d2,f2,ss2,st⟩ P pp∧Below w.heap.size w w'
def ZfL (d1 f1:Int) (ss1:List ByteArray) (d2 f2:Int) (ss2:List ByteArray) (st:List Zv) (P:List Zr) (pp:List Zt) (m:Int) (x:Int) (w:World) (e:Ending) (w':World):Prop :=
 ∃ B1 e1 B2 e2 B3 e3 B4 e4 B5 e5,e=.returned (.tuple #[.agg #[.int .i64 d1,.int .i64 f1,.slice B1 ss1.length e1,.int .i64 d2,.int .i64 f2,.slice B2 ss2.length e2,.slice B3 st.length e3,.slice B4 P.length e4,.slice B5 pp.length e5,.int .i64 m],.int .i64 x])∧Zau w' w.heap.size w'.heap.size B1 e1 B2 e2 B3 e3 B4 e4 B5 e5 ⟨d1,f1,ss1,d2,f2,ss2,st⟩ P pp∧Below w.heap.size w w'
theorem Zd5 {w:World} {g:Nat} {t:TypeId} {a0 a1 a2 a3 a4 a5 a6 a7 a8 a9:Value} (h:w.heap[g]?=some (.cells #[a0,a1,a2,a3,a4,a5,a6,a7,a8,a9] t (0,0))) :
  (w.frozen? ⟨g,0,none⟩=false∧w.frozen? ⟨g,1,none⟩=false∧w.frozen? ⟨g,2,none⟩=false∧w.frozen? ⟨g,3,none⟩=false∧w.frozen? ⟨g,4,none⟩=false)∧(w.frozen? ⟨g,5,none⟩=false∧w.frozen? ⟨g,6,none⟩=false∧w.frozen? ⟨g,7,none⟩=false∧w.frozen? ⟨g,8,none⟩=false∧w.frozen? ⟨g,9,none⟩=false) :=
 ⟨⟨(Zc h 0).2,(Zc h 1).2,(Zc h 2).2,(Zc h 3).2,(Zc h 4).2⟩,(Zc h 5).2,(Zc h 6).2,(Zc h 7).2,(Zc h 8).2,(Zc h 9).2⟩
structure MkW (w:World) (lo hi:Nat) (A1:Option Addr) (c1 n1:Nat) (A2:Option Addr) (c2 n2:Nat) (A3:Option Addr) (c3 n3:Nat) (A4:Option Addr) (c4:Nat) (A5:Option Addr) (c5 n5:Nat) (P:List Zr) (k:Int):Prop where
 all:∃ l1 h1 l2 h2 l3 L,Zqs w l1 h1 A1 c1 n1 A2 c2 n2 A3 c3 n3 k∧plI L=P∧Zi w l2 h2 A4 P.length c4 (Zp2 (k+n1+n2+7 * (n3:Int)) L)∧w.ownsRow l3 105 3 (.slice A5 n5 c5) n5 (ZlP (k+n1+n2+7 * (n3:Int)+(ZpT P:Int)) n5)
section
variable {lo hi:Nat} {w w':World} {A1 A2 A3 A4 A5:Option Addr} {c1 c2 c3 c4 c5 n1 n2 n3 n5:Nat} {P:List Zr} {k:Int}
end
open Go.ChangeShapes Go.WideShapes Go.ChangeAt Go.RowKit
set_option linter.unusedVariables false
set_option linter.unusedSimpArgs false
set_option maxRecDepth 10000
def Zbv (K W H:Int):Bool:=inB K 0 9&&(inB W 40 400&&inB H 0 100000)
theorem ZiY (K W H:Int) (w:World) :
  Calls Tryz.prog 116 #[.agg #[.int .i64 K,.int .i64 W,.int .i64 H]] w fun e w'=>e=.returned (.bool (Zbv K W H))∧Below w.heap.size w w':=by
 cases h1:inB K 0 9
 ·have HR:Hid (Zbv K W H=false):=by unfold Hid Zbv;rw [h1];rfl
  go_enter Tryz.func116,Tryz.ntmps116
  go_wp2_with (go_at_call 71;refine (Zbl _ _ _ _).mono ?_;rintro e w' ⟨rfl,rfl⟩)
  go_ret
  exact ⟨Zo HR.out.symm,bel⟩
 ·cases h2:inB W 40 400
  ·have HR:Hid (Zbv K W H=false):=by unfold Hid Zbv;rw [h1,h2];rfl
   go_enter Tryz.func116,Tryz.ntmps116
   go_wp2_with (go_at_call 71;refine (Zbl _ _ _ _).mono ?_;rintro e w' ⟨rfl,rfl⟩)
   go_ret
   exact ⟨Zo HR.out.symm,bel⟩
  ·have HR:Hid (Zbv K W H=inB H 0 100000):=by unfold Hid Zbv;rw [h1,h2];rfl
   go_enter Tryz.func116,Tryz.ntmps116
   go_wp2_with (go_at_call 71;refine (Zbl _ _ _ _).mono ?_;rintro e w' ⟨rfl,rfl⟩)
   go_ret
   exact ⟨Zo HR.out.symm,bel⟩
theorem ZmV (K W H:Int) (w:World) :
  Calls Tryz.prog 149 #[.agg #[.int .i64 K,.int .i64 W,.int .i64 H]] w fun e w'=>e=.returned (.bool (Zbv K W H))∧Below w.heap.size w w':=by
 cases h1:inB K 0 9
 ·have HR:Hid (Zbv K W H=false):=by unfold Hid Zbv;rw [h1];rfl
  go_enter Tryz.func149,Tryz.ntmps149
  go_wp2_with (go_at_call 95;refine (Zbc _ _ _ _).mono ?_;rintro e w' ⟨rfl,rfl⟩)
  go_ret
  exact ⟨Zo HR.out.symm,bel⟩
 ·cases h2:inB W 40 400
  ·have HR:Hid (Zbv K W H=false):=by unfold Hid Zbv;rw [h1,h2];rfl
   go_enter Tryz.func149,Tryz.ntmps149
   go_wp2_with (go_at_call 95;refine (Zbc _ _ _ _).mono ?_;rintro e w' ⟨rfl,rfl⟩)
   go_ret
   exact ⟨Zo HR.out.symm,bel⟩
  ·have HR:Hid (Zbv K W H=inB H 0 100000):=by unfold Hid Zbv;rw [h1,h2];rfl
   go_enter Tryz.func149,Tryz.ntmps149
   go_wp2_with (go_at_call 95;refine (Zbc _ _ _ _).mono ?_;rintro e w' ⟨rfl,rfl⟩)
   go_ret
   exact ⟨Zo HR.out.symm,bel⟩
def ZbG (l:List Zt):Bool:=l.all fun p=>Zbv p.k p.g p.s
def Zfk (l:List Zt) (j:Nat):Prop:=∀ i,i<j→∀ p,l[i]?=some p→Zbv p.k p.g p.s=true
theorem Zf0 (l:List Zt):Zfk l 0:=fun i hi=>absurd hi (by omega)
theorem Zf9 {l:List Zt} {j:Nat} {p:Zt} (h:Zfk l j) (hx:l[j]?=some p) (hn:Zbv p.k p.g p.s=true):Zfk l (j+1):=by
 intro i hi y hy
 rcases Nat.lt_or_ge i j with h1|h1
 ·exact h i h1 y hy
 ·have:i=j:=by omega
  subst this
  rw [hx] at hy;injection hy with hy;subst hy;exact hn
theorem ZkK {l:List Zt} {j:Nat} {p:Zt} (hx:l[j]?=some p) (hn:Zbv p.k p.g p.s=false):ZbG l=false:=by
 unfold ZbG
 rw [List.all_eq_false]
 exact ⟨p,List.mem_of_getElem? hx,by rw [hn];decide⟩
theorem Zjt {l:List Zt} (h:Zfk l l.length):ZbG l=true:=by
 unfold ZbG
 rw [List.all_eq_true]
 intro p hp
 obtain ⟨i,hi,rfl⟩:=List.getElem_of_mem hp
 exact h i hi _ (List.getElem?_eq_getElem hi)
theorem ZjB (K W H:Int) (w:World) :
  Calls Tryz.prog 115 #[.agg #[.int .i64 K,.int .i64 W,.int .i64 H]] w fun e w'=>e=.returned (.bool (!Zbv K W H))∧Below w.heap.size w w':=by
 cases h:Zbv K W H
 ·have HC:=Lib.hid h
  clear h
  go_enter Tryz.func115,Tryz.ntmps115
  go_wp2_with (go_at_call 116;refine (ZiY _ _ _ _).mono ?_;rw [HC.out];rintro e w1 ⟨rfl,hb1⟩)
  go_ret
  exact ⟨rfl,bel⟩
 ·have HC:=Lib.hid h
  clear h
  go_enter Tryz.func115,Tryz.ntmps115
  go_wp2_with (go_at_call 116;refine (ZiY _ _ _ _).mono ?_;rw [HC.out];rintro e w1 ⟨rfl,hb1⟩)
  go_ret
  exact ⟨rfl,bel⟩
theorem ZpP (pp:List Zt) (B:Nat) (A:Option Addr) (n c:Nat) (w:World) (hS:Zb4 w B A n pp) (hB:B≤w.heap.size) :
  Calls Tryz.prog 163 #[.slice A n c,.func (.func 115) #[] #[]] w fun e w'=>(∃ x:Int,e=.returned (.int .i64 x)∧(decide (0≤x))=!ZbG pp)∧Below w.heap.size w w':=by
 have hn:=hS.nb
 have hl:=hS.len
 have HL:=Lib.hid hl
 clear hl
 go_enter Tryz.func163,Tryz.ntmps163
 go_wp2
 go_loopw [5,8] (fun x i wr=>∃ j:Nat,j≤n∧i=.int .i64 j∧Hid (Zfk pp j)∧Below w.heap.size w wr) (fun _ i _=>n - (intOf i).toNat)
 case atStart=>exact ⟨0,Nat.zero_le _,rfl,Zf0 _,Below.refl _ _⟩
 case round =>
  obtain ⟨j,hj,rfl,HN,hb⟩:=hrel
  have hzr:=hb.size
  by_cases hltn:j<n
  ·obtain ⟨hk1,ad,rfl,hab,hc0,hc1,hc2⟩:=(hS.below (hb.mono hB)).at_ hltn
   have HX:=Lib.hid (show pp[j]?=some pp[j] from List.getElem?_eq_getElem hk1)
   generalize pp[j]=r at *
   have hcon:=ZjB r.k r.g r.s wr
   cases hq:Zbv r.k r.g r.s
   ·have HF:Hid ((decide (0≤(j:Int)))=!ZbG pp):=by unfold Hid;rw [ZkK HX.out hq];simp
    rw [hq] at hcon
    have HC:=Zk hcon
    clear hq hcon
    go_wp2_with (go_at_call 115;refine (Ze HC).mono ?_;rintro e w1 ⟨rfl,hb1⟩)
    go_ret
    exact ⟨⟨_,rfl,HF.out⟩,bel⟩
   ·have HS:=Lib.hid (Zf9 HN.out HX.out hq)
    rw [hq] at hcon
    have HC:=Zk hcon
    clear hq hcon
    go_wp2_with (go_at_call 115;refine (Ze HC).mono ?_;rintro e w1 ⟨rfl,hb1⟩)
    go_roundw
    case rel=>exact ⟨j+1,by omega,by go_num,HS.out,bel⟩
    case measure=>simp [intOf];omega
  ·have hjn:j=n:=by omega
   have HF:Hid ((decide (0≤(-1:Int)))=!ZbG pp):=by unfold Hid;rw [Zjt (by rw [HL.out,← hjn];exact HN.out)];decide
   clear hjn
   go_wp2
   go_ret
   exact ⟨⟨_,rfl,HF.out⟩,hb⟩
theorem Zd1 (pp:List Zt) (B:Nat) (A:Option Addr) (n c:Nat) (w:World) (hS:Zb4 w B A n pp) (hB:B≤w.heap.size) :
  Calls Tryz.prog 67 #[.slice A n c] w fun e w'=>e=.returned (.bool (ZbG pp))∧Below w.heap.size w w':=by
 have hcon:∀ (W:World),Below w.heap.size w W→Calls Tryz.prog 114 #[.slice A n c,.func (.func 115) #[] #[]] W fun e w'=>e=.returned (.bool (!ZbG pp))∧Below W.heap.size W w':=by
  intro W hW
  have hix:=ZpP pp B A n c W (hS.below (hW.mono hB)) (Nat.le_trans hB hW.size)
  have HIX:=Zk hix
  clear hix
  go_enter Tryz.func114,Tryz.ntmps114
  go_wp2_with (go_at_call 163;refine (Ze HIX).mono ?_;rintro e w1 ⟨⟨x,rfl,hx⟩,hb1⟩;have HX:=Lib.hid hx;clear hx)
  go_ret
  exact ⟨Zo HX.out,hb1⟩
 have HC:=Zk hcon
 clear hcon
 cases hp:ZbG pp
 ·rw [hp] at HC
  clear hp
  go_enter Tryz.func67,Tryz.ntmps67
  go_wp2_with (go_at_call 114;refine (Ze HC _ (Below.refl _ _)).mono ?_;rintro e w1 ⟨rfl,hb1⟩)
  go_ret
  exact ⟨rfl,hb1⟩
 ·rw [hp] at HC
  clear hp
  go_enter Tryz.func67,Tryz.ntmps67
  go_wp2_with (go_at_call 114;refine (Ze HC _ (Below.refl _ _)).mono ?_;rintro e w1 ⟨rfl,hb1⟩)
  go_ret
  exact ⟨rfl,hb1⟩
theorem Zgn (pp:List Zt) (B:Nat) (A:Option Addr) (n c:Nat) (w:World) (hS:Zb4 w B A n pp) (hB:B≤w.heap.size) :
  Calls Tryz.prog 94 #[.slice A n c] w fun e w'=>e=.returned (.bool (ZbG pp))∧Below w.heap.size w w':=by
 have hn:=hS.nb
 have hl:=hS.len
 have HL:=Lib.hid hl
 clear hl
 go_enter Tryz.func94,Tryz.ntmps94
 go_wp2
 go_loopw [3] (fun i wr=>∃ j:Nat,j≤n∧i=.int .i64 j∧Hid (Zfk pp j)∧Below w.heap.size w wr) (fun i _=>n - (intOf i).toNat)
 case atStart=>exact ⟨0,Nat.zero_le _,rfl,Zf0 _,Below.refl _ _⟩
 case round =>
  obtain ⟨j,hj,rfl,HN,hb⟩:=hrel
  have hzr:=hb.size
  by_cases hltn:j<n
  ·obtain ⟨hk1,ad,rfl,hab,hc0,hc1,hc2⟩:=(hS.below (hb.mono hB)).at_ hltn
   have HX:=Lib.hid (show pp[j]?=some pp[j] from List.getElem?_eq_getElem hk1)
   generalize pp[j]=r at *
   have hcon:=ZmV r.k r.g r.s wr
   cases hq:Zbv r.k r.g r.s
   ·have HF:=Lib.hid (ZkK HX.out hq)
    rw [hq] at hcon
    have HC:=Zk hcon
    clear hq hcon
    go_wp2_with (go_at_call 149;refine (Ze HC).mono ?_;rintro e w1 ⟨rfl,hb1⟩)
    go_ret
    exact ⟨Zo HF.out.symm,bel⟩
   ·have HS:=Lib.hid (Zf9 HN.out HX.out hq)
    rw [hq] at hcon
    have HC:=Zk hcon
    clear hq hcon
    go_wp2_with (go_at_call 149;refine (Ze HC).mono ?_;rintro e w1 ⟨rfl,hb1⟩)
    go_roundw
    case rel=>exact ⟨j+1,by omega,by go_num,HS.out,bel⟩
    case measure=>simp [intOf];omega
  ·have hjn:j=n:=by omega
   have HF:=Lib.hid (Zjt (l:=pp) (by rw [HL.out,← hjn];exact HN.out))
   clear hjn
   go_wp2
   go_ret
   exact ⟨Zo HF.out.symm,hb⟩
theorem ZdN (l:List Zt):∀ u∈l.flatMap Zao,u.oneCell'=true:=by
 intro u hu
 obtain ⟨s,_,h⟩:=List.mem_flatMap.1 hu
 simp [Zao] at h
 rcases h with rfl|rfl|rfl <;> rfl
theorem ZjG {base n:Nat} {v:Value} {l:List Zt} {w w':World} (hl:l.length=n) (ho:w'.ownsRow base 105 3 v n (l.flatMap Zao)) (hb:Below w.heap.size w w'):Zhg base l w (.returned v) w':=by
 subst hl
 obtain ⟨A,c,rfl⟩:=Zbg ho
 exact ⟨A,c,rfl,ho,hb⟩
theorem ZgW (B:Nat) (A:Option Addr) (n c:Nat) (l:List Zt) (w:World) (hS:Zb4 w B A n l) (hB:B≤w.heap.size) :
  Calls Tryz.prog 86 #[.slice A n c] w (Zhg w.heap.size l w):=by
 have hn:=hS.nb
 have hl:=hS.len
 have hR:=hS.rd
 rcases A with _|ad
 ·have hn0:n=0:=by
   rcases Nat.eq_zero_or_pos n with h0|h0
   ·exact h0
   ·obtain ⟨_,ad,h,_⟩:=hS.at_ h0;cases h
  subst hn0
  have hs0:l=[]:=List.eq_nil_of_length_eq_zero hl
  subst hs0
  have hnil:=fun W=>Lib.run_eql_slice_nil (P:=Tryz.prog) W 31
  clear hl
  go_enter Tryz.func86,Tryz.ntmps86
  go_wp2
  go_ret
  exact ⟨none,0,rfl,World.ownsRow_nil w _ _ _,Below.refl _ _⟩
 ·have hnil:=fun W=>Lib.run_eql_slice_nil (P:=Tryz.prog) W 31
  obtain ⟨i0,hi0,hz0,hz1,hz2⟩:=info_parts Zcf
  have hown:(w.alloc (.cells #[] 105)).ownsRow w.heap.size 105 3 (.slice (some ⟨w.heap.size,0,none⟩) 0 0) 0 []:=World.ownsRow_made w #[] 0 (Nat.le_refl _) (by unfold maxLen;omega) rfl
  have hR1:=hR.alloc hB (.cells #[] 105)
  have hone:=ZdN l
  have HL:=Lib.hid hl
  have HONE:=Zk hone
  clear hl hone
  go_enter Tryz.func86,Tryz.ntmps86
  go_wp2_with (at_builtin;refine Zay _ rfl (.tmp 5) (.tmp 6) _ rfl w.heap.size 105 i0 _ 3 24 Tryz.underlying31 hi0 hz0 hz1 hz2 rfl (by omega) (.slice (some ⟨w.heap.size,0,none⟩) 0 0) 0 [] rfl hown B (some ad) n c (l.flatMap Zao) rfl hR1 (Ze HONE) ?_ ?_ ?_ n _ (by omega) (List.nil_append _) ?_;(unfold maxLen;omega);omega;(simp);intro A1 c1 w1 hown1 hb1)
  have hfr:=ZjG (l:=l) (n:=n) HL.out hown1 (((Below.refl w.heap.size w).alloc (Nat.le_refl _) _).trans hb1)
  have HFR:=Zk hfr
  clear hfr hown1
  go_ret
  exact (Ze HFR)
def Zqu:Zt:=⟨0,0,0⟩
def pAt (pp:List Zt) (j:Nat):Zt:=pp.getD j Zqu
theorem Zhp (pp:List Zt) (j:Nat) (h:j<pp.length):pAt pp j=pp[j]:=by unfold pAt;simp [List.getD,h]
def Zho (pp:List Zt) (K:Int):Nat→Int
 |0=>0
 |j+1=>if (pAt pp j).k=K then Zho pp K j+(pAt pp j).s else Zho pp K j
theorem ZhL {pp:List Zt} {K:Int} {j:Nat} (h:j<pp.length) (hk:pp[j].k=K):Zho pp K (j+1)=Zho pp K j+pp[j].s:=by
 show (if (pAt pp j).k=K then _ else _)=_
 rw [Zhp pp j h,if_pos hk]
theorem ZjP {pp:List Zt} {K:Int} {j:Nat} (h:j<pp.length) (hk:¬pp[j].k=K):Zho pp K (j+1)=Zho pp K j:=by
 show (if (pAt pp j).k=K then _ else _)=_
 rw [Zhp pp j h,if_neg hk]
theorem ZdE {pp:List Zt} (h:ZbG pp=true) {p:Zt} (hp:p∈pp):(0≤p.k∧p.k≤9)∧(40≤p.g∧p.g≤400)∧0≤p.s∧p.s≤100000:=by
 unfold ZbG at h
 rw [List.all_eq_true] at h
 have:=h p hp
 unfold Zbv at this
 simp only [Bool.and_eq_true,Za5] at this
 exact ⟨this.1,this.2.1,this.2.2⟩
theorem Zfc {pp:List Zt} (h:ZbG pp=true) (K:Int):∀ j,j≤pp.length→0≤Zho pp K j∧Zho pp K j≤100000 * (j:Int)
 |0,_=>by show (0:Int)≤0∧(0:Int)≤_;omega
 |j+1,hj=>by
  have h1:=Zfc h K j (by omega)
  have h2:=ZdE h (List.getElem_mem (show j<pp.length by omega))
  by_cases hk:pp[j].k=K
  ·rw [ZhL (by omega) hk];omega
  ·rw [ZjP (by omega) hk];omega
def Zbn (pp:List Zt) (K:Int):Int:=if ZbG pp=true then Zho pp K pp.length else 0
theorem Zh0 {pp:List Zt} {K:Int} (h:ZbG pp=false):Zbn pp K=0:=by unfold Zbn;rw [h];rfl
theorem ZdY {pp:List Zt} {K:Int} (h:ZbG pp=true):Zbn pp K=Zho pp K pp.length:=by unfold Zbn;rw [if_pos h]
theorem ZfV (pp:List Zt) (K:Int) (B:Nat) (A:Option Addr) (n c:Nat) (w:World) (hS:Zb4 w B A n pp) (hB:B≤w.heap.size) :
  Calls Tryz.prog 27 #[.slice A n c,.int .i64 K] w fun e w'=>e=.returned (.int .i64 (Zbn pp K))∧Below w.heap.size w w':=by
 have hn:=hS.nb
 have hl:=hS.len
 have hap:=Zd1 pp B A n c w hS hB
 cases hp:ZbG pp
 ·rw [hp] at hap
  have HAP:=Zk hap
  have HR:=Lib.hid (Zh0 (K:=K) hp)
  clear hap hp hl
  go_enter Tryz.func27,Tryz.ntmps27
  go_wp2_with (go_at_call 67;refine (Ze HAP).mono ?_;rintro e w1 ⟨rfl,hb1⟩)
  go_ret
  exact ⟨ZbO HR.out.symm,hb1⟩
 ·have HP:=Lib.hid hp
  have hbd:=fun j (h:j≤n)=>Zfc hp K j (by omega)
  rw [hp] at hap
  have HAP:=Zk hap
  have HR:=Lib.hid (ZdY (K:=K) hp)
  have HL:=Lib.hid hl
  have HBD:=Zk hbd
  clear hap hp hl hbd
  go_enter Tryz.func27,Tryz.ntmps27
  go_wp2_with (go_at_call 67;refine (Ze HAP).mono ?_;rintro e w1 ⟨rfl,hb1⟩)
  go_loopw [5,13] (fun q i wr=>∃ (j:Nat) (x:Int),j≤n∧i=.int .i64 j∧q=.int .i64 x∧Hid (x=Zho pp K j)∧Below w.heap.size w wr) (fun _ i _=>n - (intOf i).toNat)
  case atStart=>exact ⟨0,0,Nat.zero_le _,rfl,rfl,rfl,hb1⟩
  case round =>
   obtain ⟨j,x,hj,rfl,rfl,HX,hb⟩:=hrel
   have hzr:=hb.size
   have hx:=(Ze HBD) j hj
   rw [← HX.out] at hx
   by_cases hlt:j<n
   ·obtain ⟨hk1,ad,rfl,hab,hc0,hc1,hc2⟩:=(hS.below (hb.mono hB)).at_ hlt
    have hpb:=ZdE HP.out (List.getElem_mem hk1)
    have hwx:IntKind.i64.wrap (x+pp[j].s)=x+pp[j].s:=by rw [IntKind.wrap_i64];omega
    by_cases hk:pp[j].k=K
    ·have HS:=Lib.hid (ZhL hk1 hk)
     go_wp2
     go_roundw
     case rel=>exact ⟨j+1,x+pp[j].s,by omega,by go_num,rfl,by unfold Hid;rw [HS.out,HX.out],bel⟩
     case measure=>simp [intOf];omega
    ·have HS:=Lib.hid (ZjP hk1 hk)
     go_wp2
     go_roundw
     case rel=>exact ⟨j+1,x,by omega,by go_num,rfl,by unfold Hid;rw [HS.out,HX.out],bel⟩
     case measure=>simp [intOf];omega
   ·have hjn:j=n:=by omega
    have HF:Hid (x=Zbn pp K):=by unfold Hid;rw [HR.out,HX.out,HL.out,hjn]
    clear hjn
    go_wp2
    go_ret
    exact ⟨ZbO HF.out,hb⟩
theorem ZfW (pp:List Zt) (K:Int) (B:Nat) (A:Option Addr) (n c:Nat) (w:World) (hS:Zb4 w B A n pp) (hB:B≤w.heap.size) :
  Calls Tryz.prog 49 #[.slice A n c,.int .i64 K] w fun e w'=>e=.returned (.int .i64 (Zbn pp K))∧Below w.heap.size w w':=by
 have hn:=hS.nb
 have hl:=hS.len
 have hap:=fun (W:World) (hW:Below w.heap.size w W)=>Zgn pp B A n c W (hS.below (hW.mono hB)) (Nat.le_trans hB hW.size)
 cases hp:ZbG pp
 ·simp only [hp] at hap
  have HAP:=Zk hap
  have HR:=Lib.hid (Zh0 (K:=K) hp)
  clear hap hp
  by_cases hn0:0<n
  ·go_enter Tryz.func49,Tryz.ntmps49
   go_wp2
   go_loopw [5,6] (fun q i wr=>i=.int .i64 0∧q=.int .i64 0∧Below w.heap.size w wr) (fun _ i _=>0)
   case atStart=>exact ⟨rfl,rfl,Below.refl _ _⟩
   case round =>
    obtain ⟨rfl,rfl,hb⟩:=hrel
    go_wp2_with (go_at_call 94;refine (Ze HAP _ hb).mono ?_;rintro e w1 ⟨rfl,hb1⟩)
    go_ret
    exact ⟨ZbO HR.out.symm,hb.trans (hb1.mono hb.size)⟩
  ·have hn1:n=0:=by omega
   subst hn1
   go_enter Tryz.func49,Tryz.ntmps49
   go_wp2
   go_loopw [5,6] (fun q i wr=>i=.int .i64 0∧q=.int .i64 0∧Below w.heap.size w wr) (fun _ i _=>0)
   case atStart=>exact ⟨rfl,rfl,Below.refl _ _⟩
   case round =>
    obtain ⟨rfl,rfl,hb⟩:=hrel
    go_wp2
    go_ret
    exact ⟨ZbO HR.out.symm,hb⟩
 ·have HP:=Lib.hid hp
  have hbd:=fun j (h:j≤n)=>Zfc hp K j (by omega)
  simp only [hp] at hap
  have HAP:=Zk hap
  have HR:=Lib.hid (ZdY (K:=K) hp)
  have HL:=Lib.hid hl
  have HBD:=Zk hbd
  clear hap hp hl hbd
  go_enter Tryz.func49,Tryz.ntmps49
  go_wp2
  go_loopw [5,6] (fun q i wr=>∃ (j:Nat) (x:Int),j≤n∧i=.int .i64 j∧q=.int .i64 x∧Hid (x=Zho pp K j)∧Below w.heap.size w wr) (fun _ i _=>n - (intOf i).toNat)
  case atStart=>exact ⟨0,0,Nat.zero_le _,rfl,rfl,rfl,Below.refl _ _⟩
  case round =>
   obtain ⟨j,x,hj,rfl,rfl,HX,hb⟩:=hrel
   have hzr:=hb.size
   have hx:=(Ze HBD) j hj
   rw [← HX.out] at hx
   by_cases hlt:j<n
   ·go_wp2_with fail
    refine (Ze HAP _ hb).mono ?_
    rintro e w1 ⟨rfl,hb1⟩
    have hbw1:Below w.heap.size w w1:=hb.trans (hb1.mono hb.size)
    obtain ⟨hk1,ad,rfl,hab,hc0,hc1,hc2⟩:=(hS.below (hbw1.mono hB)).at_ hlt
    have hpb:=ZdE HP.out (List.getElem_mem hk1)
    have hwx:IntKind.i64.wrap (x+pp[j].s)=x+pp[j].s:=by rw [IntKind.wrap_i64];omega
    by_cases hk:pp[j].k=K
    ·have HS:=Lib.hid (ZhL hk1 hk)
     go_wp2
     go_roundw
     case rel=>exact ⟨j+1,x+pp[j].s,by omega,by go_num,rfl,by unfold Hid;rw [HS.out,HX.out],hbw1⟩
     case measure=>simp [intOf];omega
    ·have HS:=Lib.hid (ZjP hk1 hk)
     go_wp2
     go_roundw
     case rel=>exact ⟨j+1,x,by omega,by go_num,rfl,by unfold Hid;rw [HS.out,HX.out],hbw1⟩
     case measure=>simp [intOf];omega
   ·have hjn:j=n:=by omega
    have HF:Hid (x=Zbn pp K):=by unfold Hid;rw [HR.out,HX.out,HL.out,hjn]
    clear hjn
    go_wp2
    go_ret
    exact ⟨ZbO HF.out,hb⟩
def Zd4 (pp:List Zt) (K x:Int):Nat→List Zt×Int
 |0=>(pp,x)
 |j+1=>if (pAt pp j).k=K then ((Zd4 pp K x j).1.set j ⟨(pAt pp j).k,(pAt pp j).g,(pAt pp j).s - min (pAt pp j).s (Zd4 pp K x j).2⟩,(Zd4 pp K x j).2 - min (pAt pp j).s (Zd4 pp K x j).2) else Zd4 pp K x j
theorem Zgk {pp:List Zt} {K x:Int} {j:Nat} (h:j<pp.length) (hk:pp[j].k=K):Zd4 pp K x (j+1)=((Zd4 pp K x j).1.set j ⟨pp[j].k,pp[j].g,pp[j].s - min pp[j].s (Zd4 pp K x j).2⟩,(Zd4 pp K x j).2 - min pp[j].s (Zd4 pp K x j).2):=by
 show (if (pAt pp j).k=K then _ else _)=_
 rw [Zhp pp j h,if_pos hk]
theorem Zht {pp:List Zt} {K x:Int} {j:Nat} (h:j<pp.length) (hk:¬pp[j].k=K):Zd4 pp K x (j+1)=Zd4 pp K x j:=by
 show (if (pAt pp j).k=K then _ else _)=_
 rw [Zhp pp j h,if_neg hk]
theorem Ze1 (pp:List Zt) (K x:Int):∀ j,(Zd4 pp K x j).1.length=pp.length
 |0=>rfl
 |j+1=>by
  show (if (pAt pp j).k=K then _ else _:List Zt×Int).1.length=_
  split
  ·simp [Ze1 pp K x j]
  ·exact Ze1 pp K x j
theorem Zgl (pp:List Zt) (K x:Int):∀ j i,j≤i→(Zd4 pp K x j).1[i]?=pp[i]?
 |0,_,_=>rfl
 |j+1,i,h=>by
  show (if (pAt pp j).k=K then _ else _:List Zt×Int).1[i]?=_
  split
  ·simp only [List.getElem?_set_ne (show j≠i by omega)]
   exact Zgl pp K x j i (by omega)
  ·exact Zgl pp K x j i (by omega)
theorem Zhx {pp:List Zt} (hp:ZbG pp=true) (K:Int) {x:Int} (hx:0≤x):∀ j,j≤pp.length→0≤(Zd4 pp K x j).2∧(Zd4 pp K x j).2≤x
 |0,_=>by show 0≤x∧x≤x;omega
 |j+1,h=>by
  have h1:=Zhx hp K hx j (by omega)
  have h2:=ZdE hp (List.getElem_mem (show j<pp.length by omega))
  by_cases hk:pp[j].k=K
  ·rw [Zgk (by omega) hk];simp only;omega
  ·rw [Zht (by omega) hk];exact h1
theorem Zl7 {pp:List Zt} (hp:ZbG pp=true) (K:Int) {x:Int} (hx:0≤x):∀ j,j≤pp.length→ZbG (Zd4 pp K x j).1=true
 |0,_=>hp
 |j+1,h=>by
  have h0:=Zl7 hp K hx j (by omega)
  have h1:=Zhx hp K hx j (by omega)
  have h2:=ZdE hp (List.getElem_mem (show j<pp.length by omega))
  by_cases hk:pp[j].k=K
  ·rw [Zgk (by omega) hk]
   unfold ZbG at h0 ⊢
   rw [List.all_eq_true] at h0 ⊢
   intro p hpm
   rcases List.mem_or_eq_of_mem_set hpm with hm|rfl
   ·exact h0 p hm
   ·unfold Zbv
    simp only [Bool.and_eq_true,Za5]
    refine ⟨h2.1,h2.2.1,?_⟩
    omega
  ·rw [Zht (by omega) hk];exact h0
def ZbD (pp:List Zt) (K x:Int):List Zt×Bool :=
 if pp.length≤20∧ZbG pp=true∧0≤x∧x≤Zbn pp K then ((Zd4 pp K x pp.length).1,true) else (pp,false)
theorem Zjw {pp:List Zt} {K x:Int} (h:¬(pp.length≤20∧ZbG pp=true∧0≤x∧x≤Zbn pp K)):ZbD pp K x=(pp,false):=if_neg h
theorem ZhY {pp:List Zt} {K x:Int} (h1:pp.length≤20) (h2:ZbG pp=true) (h3:0≤x) (h4:x≤Zbn pp K):ZbD pp K x=((Zd4 pp K x pp.length).1,true):=if_pos ⟨h1,h2,h3,h4⟩
theorem ZdS (pp:List Zt) (K x:Int):(ZbD pp K x).1.length=pp.length:=by
 unfold ZbD
 split
 ·exact Ze1 _ _ _ _
 ·rfl
theorem Zis {pp:List Zt} {K x:Int} (h:(ZbD pp K x).2=true):ZbG (ZbD pp K x).1=true∧pp.length≤20:=by
 unfold ZbD at *
 split at h
 ·rename_i hc
  rw [if_pos hc]
  exact ⟨Zl7 hc.2.1 _ hc.2.2.1 _ (Nat.le_refl _),hc.1⟩
 ·cases h
theorem Zio (l:List Zt) (j:Nat) (h:j<l.length) (v:Int):(l.flatMap Zao).set (j * 3+2) (.int .i64 v)=(l.set j ⟨l[j].k,l[j].g,v⟩).flatMap Zao:=by
 have h1:l=l.take j++l[j] :: l.drop (j+1):=by rw [← List.drop_eq_getElem_cons h,List.take_append_drop]
 have h2:l.set j ⟨l[j].k,l[j].g,v⟩=l.take j++(⟨l[j].k,l[j].g,v⟩:Zt) :: l.drop (j+1):=by rw [List.set_eq_take_append_cons_drop,if_pos h]
 rw [h2]
 conv=>lhs;rw [h1]
 simp only [List.flatMap_append,List.flatMap_cons]
 have hlen:((l.take j).flatMap Zao).length=j * 3:=by rw [Zcu Zct,List.length_take,Nat.min_eq_left (by omega)]
 rw [List.set_append_right _ _ (by omega),hlen]
 simp [Zao]
def Zmh (pp:List Zt) (b:Bool) (w:World) (e:Ending) (w':World):Prop :=
 ∃ A c,e=.returned (.tuple #[.slice A pp.length c,.bool b])∧ZbL w' w.heap.size w'.heap.size A c pp∧Below w.heap.size w w'
theorem Zci {pp:List Zt} {b:Bool} {q:List Zt×Bool} {w w':World} {e:Ending} (h:q=(pp,b)) (hu:Zmh pp b w e w'):Zmh q.1 q.2 w e w':=by subst h;exact hu
theorem Zlo (pp:List Zt) (K x:Int) (B:Nat) (A:Option Addr) (c:Nat) (w:World) (hS:Zb4 w B A pp.length pp) (hB:B≤w.heap.size) :
  Calls Tryz.prog 198 #[.slice A pp.length c,.int .i64 K,.int .i64 x] w (Zmh (ZbD pp K x).1 (ZbD pp K x).2 w):=by
 obtain ⟨n,hnn⟩:∃ n,n=pp.length:=⟨_,rfl⟩
 have hcl:=ZgW B A pp.length c pp w hS hB
 have hap:=fun (W:World) (hW:Below w.heap.size w W)=>Zd1 pp B A pp.length c W (hS.below (hW.mono hB)) (Nat.le_trans hB hW.size)
 have hsl:=fun (W:World) (hW:Below w.heap.size w W)=>ZfV pp K B A pp.length c W (hS.below (hW.mono hB)) (Nat.le_trans hB hW.size)
 have hn:=hS.nb
 have hno:=fun h=>Zjw (pp:=pp) (K:=K) (x:=x) h
 have hyes:=fun h1 h2 h3 h4=>ZhY (pp:=pp) (K:=K) (x:=x) h1 h2 h3 h4
 have HCL:=Zk hcl
 have HAP:=Zk hap
 have HSL:=Zk hsl
 have HNO:=Zk hno
 have HYES:=Zk hyes
 have HNN:=Lib.hid hnn
 clear hcl hap hsl hno hyes hS
 by_cases h1:pp.length≤20
 ·cases h2:ZbG pp
  ·have HR:=Lib.hid ((Ze HNO) (by rw [h2];simp))
   have H2:=Lib.hid h2
   clear h2
   go_enter Tryz.func198,Tryz.ntmps198
   go_wp2_with (first|(go_at_call 86;refine (Ze HCL).mono ?_;rintro e w1 ⟨A1,c1,rfl,ho1,hb1⟩)|(go_at_call 67;refine (Ze HAP _ hb1).mono ?_;rw [H2.out];rintro e w2 ⟨rfl,hb2⟩))
   refine bodyPost_ret (v:=.tuple #[.slice A1 pp.length c1,.bool false]) (by simp [results,Tryz.results198,go_sem, *]) rfl ?_
   exact Zci HR.out ⟨A1,c1,rfl,ZbL.of (Zx ho1 hb2) (by first|exact Nat.le_refl _|exact hb2.size),hb1.trans (hb2.mono hb1.size)⟩
  ·by_cases h3:0≤x
   ·by_cases h4:x≤Zbn pp K
    ·have HR:=Lib.hid ((Ze HYES) h1 h2 h3 h4)
     have hbd:=fun j (hj:j≤n)=>Zhx h2 K h3 j (by omega)
     have hlen:=fun j=>Ze1 pp K x j
     have hget:=fun j=>Zgl pp K x j j (Nat.le_refl _)
     have hpo:=fun (p:Zt) (hp:p∈pp)=>ZdE h2 hp
     have hxb:x≤1677721600000:=by have h8:=Zfc h2 K pp.length (Nat.le_refl _);rw [ZdY h2] at h4;omega
     have H2:=Lib.hid h2
     have HBD:=Zk hbd
     have HLEN:=Zk hlen
     have HGET:=Zk hget
     have HPO:=Zk hpo
     clear h2 hbd hlen hget hpo
     generalize Zbn pp K=sl at *
     have h4':¬sl<x:=by omega
     go_enter Tryz.func198,Tryz.ntmps198
     go_wp2_with (first|(go_at_call 86;refine (Ze HCL).mono ?_;rintro e w1 ⟨A1,c1,rfl,ho1,hb1⟩)|(go_at_call 67;refine (Ze HAP _ hb1).mono ?_;rw [H2.out];rintro e w2 ⟨rfl,hb2⟩)|(go_at_call 27;refine (Ze HSL _ (hb1.trans (hb2.mono hb1.size))).mono ?_;rintro e w3 ⟨rfl,hb3⟩))
     have hb123:Below w.heap.size w w3:=hb1.trans ((hb2.mono hb1.size).trans (hb3.mono (Nat.le_trans hb1.size hb2.size)))
     have ho3:=Zx (Zx ho1 hb2) hb3
     clear hb1 hb2 hb3 ho1
     go_loopw [2,36] (fun q i wr=>∃ (j:Nat) (y:Int) (l:List Zt),j≤n∧i=.int .i64 j∧q=.int .i64 y∧Hid (Zd4 pp K x j=(l,y))∧wr.ownsRow w.heap.size 105 3 (.slice A1 pp.length c1) pp.length (l.flatMap Zao)∧Below w.heap.size w wr) (fun _ i _=>n - (intOf i).toNat)
     case atStart=>exact ⟨0,x,pp,Nat.zero_le _,rfl,rfl,rfl,ho3,hb123⟩
     case round =>
      obtain ⟨j,y,l,hj,rfl,rfl,HU,hown,hb⟩:=hrel
      have hzr:=hb.size
      have hyb:=(Ze HBD) j hj
      rw [HU.out] at hyb
      simp only at hyb
      by_cases hlt:j<n
      ·have hjp:j<pp.length:=by rw [← HNN.out];exact hlt
       have hll:l.length=pp.length:=by have:=(Ze HLEN) j;rw [HU.out] at this;exact this
       have hjl:j<l.length:=by omega
       have hlj:l[j]=pp[j]:=by
        have:=(Ze HGET) j
        rw [HU.out] at this
        simp only at this
        rw [List.getElem?_eq_getElem hjl,List.getElem?_eq_getElem hjp] at this
        injection this
       obtain ⟨g,cap,hv,hbg,hglt⟩:=hown.form (by omega)
       have hA:A1=some ⟨g,0,none⟩:=by injection hv
       subst hA
       clear hv
       have hcc:=fun i hi=>Zes Zct l j i hjl hi
       have hc0:wr.cell? ⟨g,j * 3,none⟩=some (.int .i64 pp[j].k):=by have:=hown.cellAt (j * 3) (by omega);rw [this,← hlj];exact hcc 0 (by omega)
       have hc1:wr.cell? ⟨g,j * 3+1,none⟩=some (.int .i64 pp[j].g):=by have:=hown.cellAt (j * 3+1) (by omega);rw [this,← hlj];exact hcc 1 (by omega)
       have hc2:wr.cell? ⟨g,j * 3+2,none⟩=some (.int .i64 pp[j].s):=by have:=hown.cellAt (j * 3+2) (by omega);rw [this,← hlj];exact hcc 2 (by omega)
       have hf2:=hown.frozenAt (j * 3+2)
       have hpb:=(Ze HPO) _ (List.getElem_mem hjp)
       have hw1:IntKind.i64.wrap (pp[j].s - min pp[j].s y)=pp[j].s - min pp[j].s y:=by rw [IntKind.wrap_i64];omega
       have hw2:IntKind.i64.wrap (y - min pp[j].s y)=y - min pp[j].s y:=by rw [IntKind.wrap_i64];omega
       have HSET:=Zk (Zio l j hjl (pp[j].s - min pp[j].s y))
       have HLJ:=Lib.hid hlj
       clear hcc hll hlj
       by_cases hk:pp[j].k=K
       ·have HS:=Lib.hid (Zgk (x:=x) hjp hk)
        go_wp2
        go_roundw
        case rel =>
         have hst:=hown.stored (j * 3+2) (.int .i64 (pp[j].s - min pp[j].s y))
         refine ⟨j+1,y - min pp[j].s y,l.set j ⟨pp[j].k,pp[j].g,pp[j].s - min pp[j].s y⟩,by omega,by go_num,rfl,?_,?_,?_⟩
         ·unfold Hid;rw [HS.out,HU.out]
         ·have h9:=hst.1
          rw [Ze HSET,HLJ.out] at h9
          exact h9.alloc _
         ·exact (hb.setCell (p:=⟨g,j * 3+2,none⟩) hbg _).alloc (by simp [World.setCell];omega) _
        case measure=>simp [intOf];omega
       ·have HS:=Lib.hid (Zht (x:=x) hjp hk)
        go_wp2
        go_roundw
        case rel=>exact ⟨j+1,y,l,by omega,by go_num,rfl,by unfold Hid;rw [HS.out];exact HU.out,hown.alloc _,hb.alloc (by omega) _⟩
        case measure=>simp [intOf];omega
      ·have hjn:j=pp.length:=by have:=HNN.out;omega
       have HF:Hid (ZbD pp K x=(l,true)):=by unfold Hid;rw [HR.out,← hjn,HU.out]
       have hll:l.length=pp.length:=by have:=(Ze HLEN) j;rw [HU.out] at this;exact this
       clear hjn
       go_wp2
       refine bodyPost_ret (v:=.tuple #[.slice A1 pp.length c1,.bool true]) (by simp [results,Tryz.results198,go_sem, *]) rfl ?_
       rw [← hll] at hown ⊢
       exact Zci HF.out ⟨A1,c1,rfl,ZbL.of hown (Nat.le_refl _),hb⟩
    ·have HR:=Lib.hid ((Ze HNO) (fun h=>h4 h.2.2.2))
     have H2:=Lib.hid h2
     clear h2
     generalize Zbn pp K=sl at *
     have h4':sl<x:=by omega
     go_enter Tryz.func198,Tryz.ntmps198
     go_wp2_with (first|(go_at_call 86;refine (Ze HCL).mono ?_;rintro e w1 ⟨A1,c1,rfl,ho1,hb1⟩)|(go_at_call 67;refine (Ze HAP _ hb1).mono ?_;rw [H2.out];rintro e w2 ⟨rfl,hb2⟩)|(go_at_call 27;refine (Ze HSL _ (hb1.trans (hb2.mono hb1.size))).mono ?_;rintro e w3 ⟨rfl,hb3⟩))
     refine bodyPost_ret (v:=.tuple #[.slice A1 pp.length c1,.bool false]) (by simp [results,Tryz.results198,go_sem, *]) rfl ?_
     exact Zci HR.out ⟨A1,c1,rfl,ZbL.of (Zx (Zx ho1 hb2) hb3) (Nat.le_refl _),hb1.trans ((hb2.mono hb1.size).trans (hb3.mono (Nat.le_trans hb1.size hb2.size)))⟩
   ·have HR:=Lib.hid ((Ze HNO) (fun h=>h3 h.2.2.1))
    have H2:=Lib.hid h2
    have h3':x<0:=by omega
    clear h2
    go_enter Tryz.func198,Tryz.ntmps198
    go_wp2_with (first|(go_at_call 86;refine (Ze HCL).mono ?_;rintro e w1 ⟨A1,c1,rfl,ho1,hb1⟩)|(go_at_call 67;refine (Ze HAP _ hb1).mono ?_;rw [H2.out];rintro e w2 ⟨rfl,hb2⟩))
    refine bodyPost_ret (v:=.tuple #[.slice A1 pp.length c1,.bool false]) (by simp [results,Tryz.results198,go_sem, *]) rfl ?_
    exact Zci HR.out ⟨A1,c1,rfl,ZbL.of (Zx ho1 hb2) (by first|exact Nat.le_refl _|exact hb2.size),hb1.trans (hb2.mono hb1.size)⟩
 ·have HR:=Lib.hid ((Ze HNO) (fun h=>h1 h.1))
  have h1':(20:Int)<(pp.length:Int):=by omega
  go_enter Tryz.func198,Tryz.ntmps198
  go_wp2_with (first|(go_at_call 86;refine (Ze HCL).mono ?_;rintro e w1 ⟨A1,c1,rfl,ho1,hb1⟩))
  refine bodyPost_ret (v:=.tuple #[.slice A1 pp.length c1,.bool false]) (by simp [results,Tryz.results198,go_sem, *]) rfl ?_
  exact Zci HR.out ⟨A1,c1,rfl,ZbL.of ho1 (Nat.le_refl _),hb1⟩
theorem Zlr (pp:List Zt) (K x:Int) (B:Nat) (A:Option Addr) (c:Nat) (w:World) (hS:Zb4 w B A pp.length pp) (hB:B≤w.heap.size) :
  Calls Tryz.prog 229 #[.slice A pp.length c,.int .i64 K,.int .i64 x] w (Zmh (ZbD pp K x).1 (ZbD pp K x).2 w):=by
 obtain ⟨n,hnn⟩:∃ n,n=pp.length:=⟨_,rfl⟩
 obtain ⟨i0,hi0,hz0,hz1,hz2⟩:=info_parts Zcf
 have hown:(w.alloc (.cells #[] 105)).ownsRow w.heap.size 105 3 (.slice (some ⟨w.heap.size,0,none⟩) 0 0) 0 []:=World.ownsRow_made w #[] 0 (Nat.le_refl _) (by unfold maxLen;omega) rfl
 have hR1:=hS.rd.alloc hB (.cells #[] 105)
 have hone:=ZdN pp
 have HOWN:=Zk hown
 have HR1:=Zk hR1
 have HONE:=Zk hone
 have HSS:=Zk hS
 clear hown hR1 hone
 have hap:=fun (W:World) (hW:Below w.heap.size w W)=>Zgn pp B A pp.length c W (hS.below (hW.mono hB)) (Nat.le_trans hB hW.size)
 have hsl:=fun (W:World) (hW:Below w.heap.size w W)=>ZfW pp K B A pp.length c W (hS.below (hW.mono hB)) (Nat.le_trans hB hW.size)
 have hn:=hS.nb
 have hno:=fun h=>Zjw (pp:=pp) (K:=K) (x:=x) h
 have hyes:=fun h1 h2 h3 h4=>ZhY (pp:=pp) (K:=K) (x:=x) h1 h2 h3 h4
 have HAP:=Zk hap
 have HSL:=Zk hsl
 have HNO:=Zk hno
 have HYES:=Zk hyes
 have HNN:=Lib.hid hnn
 clear hap hsl hno hyes hS
 cases h2:ZbG pp
 ·have HR:=Lib.hid ((Ze HNO) (by rw [h2];simp))
  have H2:=Lib.hid h2
  clear h2
  go_enter Tryz.func229,Tryz.ntmps229
  go_wp2_with (first|(at_builtin;refine Zay _ rfl (.tmp 11) (.tmp 12) _ rfl w.heap.size 105 i0 _ 3 24 Tryz.underlying31 hi0 hz0 hz1 hz2 rfl (by omega) (.slice (some ⟨w.heap.size,0,none⟩) 0 0) 0 [] rfl (Ze HOWN) B A pp.length c (pp.flatMap Zao) rfl (Ze HR1) (Ze HONE) ?_ ?_ ?_ pp.length _ (by omega) (List.nil_append _) ?_;(unfold maxLen;omega);omega;(simp);intro A1 c1 w1 ho1 hb1q;(have hb1:Below w.heap.size w w1:=((Below.refl w.heap.size w).alloc (Nat.le_refl _) _).trans hb1q);clear hb1q)|(go_at_call 94;refine (Ze HAP _ hb1).mono ?_;rw [H2.out];rintro e w2 ⟨rfl,hb2⟩))
  refine bodyPost_ret (v:=.tuple #[.slice A1 pp.length c1,.bool false]) (by simp [results,Tryz.results229,go_sem, *]) rfl ?_
  exact Zci HR.out ⟨A1,c1,rfl,ZbL.of (Zx ho1 hb2) (by first|exact Nat.le_refl _|exact hb2.size),hb1.trans (hb2.mono hb1.size)⟩
 ·by_cases h1:pp.length≤20
  ·by_cases h3:0≤x
   ·by_cases h4:x≤Zbn pp K
    ·have HR:=Lib.hid ((Ze HYES) h1 h2 h3 h4)
     have hbd:=fun j (hj:j≤n)=>Zhx h2 K h3 j (by omega)
     have hlen:=fun j=>Ze1 pp K x j
     have hget:=fun j=>Zgl pp K x j j (Nat.le_refl _)
     have hpo:=fun (p:Zt) (hp:p∈pp)=>ZdE h2 hp
     have hxb:x≤1677721600000:=by have h8:=Zfc h2 K pp.length (Nat.le_refl _);rw [ZdY h2] at h4;omega
     have H2:=Lib.hid h2
     have HBD:=Zk hbd
     have HLEN:=Zk hlen
     have HGET:=Zk hget
     have HPO:=Zk hpo
     clear h2 hbd hlen hget hpo
     generalize Zbn pp K=sl at *
     have h4':¬sl<x:=by omega
     go_enter Tryz.func229,Tryz.ntmps229
     go_wp2_with (first|(at_builtin;refine Zay _ rfl (.tmp 11) (.tmp 12) _ rfl w.heap.size 105 i0 _ 3 24 Tryz.underlying31 hi0 hz0 hz1 hz2 rfl (by omega) (.slice (some ⟨w.heap.size,0,none⟩) 0 0) 0 [] rfl (Ze HOWN) B A pp.length c (pp.flatMap Zao) rfl (Ze HR1) (Ze HONE) ?_ ?_ ?_ pp.length _ (by omega) (List.nil_append _) ?_;(unfold maxLen;omega);omega;(simp);intro A1 c1 w1 ho1 hb1q;(have hb1:Below w.heap.size w w1:=((Below.refl w.heap.size w).alloc (Nat.le_refl _) _).trans hb1q);clear hb1q)|(go_at_call 94;refine (Ze HAP _ hb1).mono ?_;rw [H2.out];rintro e w2 ⟨rfl,hb2⟩)|(go_at_call 49;refine (Ze HSL _ (hb1.trans (hb2.mono hb1.size))).mono ?_;rintro e w3 ⟨rfl,hb3⟩))
     have hb123:Below w.heap.size w w3:=hb1.trans ((hb2.mono hb1.size).trans (hb3.mono (Nat.le_trans hb1.size hb2.size)))
     have ho3:=Zx (Zx ho1 hb2) hb3
     clear hb1 hb2 hb3 ho1
     go_loopw [2,9] (fun q i wr=>∃ (j:Nat) (y:Int) (l:List Zt),j≤n∧i=.int .i64 j∧q=.int .i64 y∧Hid (Zd4 pp K x j=(l,y))∧wr.ownsRow w.heap.size 105 3 (.slice A1 pp.length c1) pp.length (l.flatMap Zao)∧Below w.heap.size w wr) (fun _ i _=>n - (intOf i).toNat)
     case atStart=>exact ⟨0,x,pp,Nat.zero_le _,rfl,rfl,rfl,ho3,hb123⟩
     case round =>
      obtain ⟨j,y,l,hj,rfl,rfl,HU,hown,hb⟩:=hrel
      have hzr:=hb.size
      have hyb:=(Ze HBD) j hj
      rw [HU.out] at hyb
      simp only at hyb
      by_cases hlt:j<n
      ·have hjp:j<pp.length:=by rw [← HNN.out];exact hlt
       have hll:l.length=pp.length:=by have:=(Ze HLEN) j;rw [HU.out] at this;exact this
       have hjl:j<l.length:=by omega
       have hlj:l[j]=pp[j]:=by
        have:=(Ze HGET) j
        rw [HU.out] at this
        simp only at this
        rw [List.getElem?_eq_getElem hjl,List.getElem?_eq_getElem hjp] at this
        injection this
       obtain ⟨g,cap,hv,hbg,hglt⟩:=hown.form (by omega)
       have hA:A1=some ⟨g,0,none⟩:=by injection hv
       subst hA
       clear hv
       have hcc:=fun i hi=>Zes Zct l j i hjl hi
       obtain ⟨hkq,ad,rfl,hab,hd0,hd1,hd2⟩:=((Ze HSS).below (hb.mono hB)).at_ hjp
       have hmc:min y pp[j].s=min pp[j].s y:=Int.min_comm _ _
       have hc0:wr.cell? ⟨g,j * 3,none⟩=some (.int .i64 pp[j].k):=by have:=hown.cellAt (j * 3) (by omega);rw [this,← hlj];exact hcc 0 (by omega)
       have hc1:wr.cell? ⟨g,j * 3+1,none⟩=some (.int .i64 pp[j].g):=by have:=hown.cellAt (j * 3+1) (by omega);rw [this,← hlj];exact hcc 1 (by omega)
       have hc2:wr.cell? ⟨g,j * 3+2,none⟩=some (.int .i64 pp[j].s):=by have:=hown.cellAt (j * 3+2) (by omega);rw [this,← hlj];exact hcc 2 (by omega)
       have hf2:=hown.frozenAt (j * 3+2)
       have hpb:=(Ze HPO) _ (List.getElem_mem hjp)
       have hw1:IntKind.i64.wrap (pp[j].s - min pp[j].s y)=pp[j].s - min pp[j].s y:=by rw [IntKind.wrap_i64];omega
       have hw2:IntKind.i64.wrap (y - min pp[j].s y)=y - min pp[j].s y:=by rw [IntKind.wrap_i64];omega
       have HSET:=Zk (Zio l j hjl (pp[j].s - min pp[j].s y))
       have HLJ:=Lib.hid hlj
       clear hcc hll hlj
       by_cases hk:pp[j].k=K
       ·have HS:=Lib.hid (Zgk (x:=x) hjp hk)
        go_wp2
        go_roundw
        case rel =>
         have hst:=hown.stored (j * 3+2) (.int .i64 (pp[j].s - min pp[j].s y))
         refine ⟨j+1,y - min pp[j].s y,l.set j ⟨pp[j].k,pp[j].g,pp[j].s - min pp[j].s y⟩,by omega,by go_num,rfl,?_,?_,?_⟩
         ·unfold Hid;rw [HS.out,HU.out]
         ·have h9:=hst.1
          rw [Ze HSET,HLJ.out] at h9
          exact h9
         ·exact hb.setCell (p:=⟨g,j * 3+2,none⟩) hbg _
        case measure=>simp [intOf];omega
       ·have HS:=Lib.hid (Zht (x:=x) hjp hk)
        go_wp2
        go_roundw
        case rel=>exact ⟨j+1,y,l,by omega,by go_num,rfl,by unfold Hid;rw [HS.out];exact HU.out,hown,hb⟩
        case measure=>simp [intOf];omega
      ·have hjn:j=pp.length:=by have:=HNN.out;omega
       have HF:Hid (ZbD pp K x=(l,true)):=by unfold Hid;rw [HR.out,← hjn,HU.out]
       have hll:l.length=pp.length:=by have:=(Ze HLEN) j;rw [HU.out] at this;exact this
       clear hjn
       go_wp2
       refine bodyPost_ret (v:=.tuple #[.slice A1 pp.length c1,.bool true]) (by simp [results,Tryz.results229,go_sem, *]) rfl ?_
       rw [← hll] at hown ⊢
       exact Zci HF.out ⟨A1,c1,rfl,ZbL.of hown (Nat.le_refl _),hb⟩
    ·have HR:=Lib.hid ((Ze HNO) (fun h=>h4 h.2.2.2))
     have H2:=Lib.hid h2
     clear h2
     generalize Zbn pp K=sl at *
     have h4':sl<x:=by omega
     go_enter Tryz.func229,Tryz.ntmps229
     go_wp2_with (first|(at_builtin;refine Zay _ rfl (.tmp 11) (.tmp 12) _ rfl w.heap.size 105 i0 _ 3 24 Tryz.underlying31 hi0 hz0 hz1 hz2 rfl (by omega) (.slice (some ⟨w.heap.size,0,none⟩) 0 0) 0 [] rfl (Ze HOWN) B A pp.length c (pp.flatMap Zao) rfl (Ze HR1) (Ze HONE) ?_ ?_ ?_ pp.length _ (by omega) (List.nil_append _) ?_;(unfold maxLen;omega);omega;(simp);intro A1 c1 w1 ho1 hb1q;(have hb1:Below w.heap.size w w1:=((Below.refl w.heap.size w).alloc (Nat.le_refl _) _).trans hb1q);clear hb1q)|(go_at_call 94;refine (Ze HAP _ hb1).mono ?_;rw [H2.out];rintro e w2 ⟨rfl,hb2⟩)|(go_at_call 49;refine (Ze HSL _ (hb1.trans (hb2.mono hb1.size))).mono ?_;rintro e w3 ⟨rfl,hb3⟩))
     refine bodyPost_ret (v:=.tuple #[.slice A1 pp.length c1,.bool false]) (by simp [results,Tryz.results229,go_sem, *]) rfl ?_
     exact Zci HR.out ⟨A1,c1,rfl,ZbL.of (Zx (Zx ho1 hb2) hb3) (Nat.le_refl _),hb1.trans ((hb2.mono hb1.size).trans (hb3.mono (Nat.le_trans hb1.size hb2.size)))⟩
   ·have HR:=Lib.hid ((Ze HNO) (fun h=>h3 h.2.2.1))
    have H2:=Lib.hid h2
    have h3':x<0:=by omega
    clear h2
    go_enter Tryz.func229,Tryz.ntmps229
    go_wp2_with (first|(at_builtin;refine Zay _ rfl (.tmp 11) (.tmp 12) _ rfl w.heap.size 105 i0 _ 3 24 Tryz.underlying31 hi0 hz0 hz1 hz2 rfl (by omega) (.slice (some ⟨w.heap.size,0,none⟩) 0 0) 0 [] rfl (Ze HOWN) B A pp.length c (pp.flatMap Zao) rfl (Ze HR1) (Ze HONE) ?_ ?_ ?_ pp.length _ (by omega) (List.nil_append _) ?_;(unfold maxLen;omega);omega;(simp);intro A1 c1 w1 ho1 hb1q;(have hb1:Below w.heap.size w w1:=((Below.refl w.heap.size w).alloc (Nat.le_refl _) _).trans hb1q);clear hb1q)|(go_at_call 94;refine (Ze HAP _ hb1).mono ?_;rw [H2.out];rintro e w2 ⟨rfl,hb2⟩))
    refine bodyPost_ret (v:=.tuple #[.slice A1 pp.length c1,.bool false]) (by simp [results,Tryz.results229,go_sem, *]) rfl ?_
    exact Zci HR.out ⟨A1,c1,rfl,ZbL.of (Zx ho1 hb2) (by first|exact Nat.le_refl _|exact hb2.size),hb1.trans (hb2.mono hb1.size)⟩
  ·have HR:=Lib.hid ((Ze HNO) (fun h=>h1 h.1))
   have H2:=Lib.hid h2
   clear h2
   have h1':(20:Int)<(pp.length:Int):=by omega
   go_enter Tryz.func229,Tryz.ntmps229
   go_wp2_with (first|(at_builtin;refine Zay _ rfl (.tmp 11) (.tmp 12) _ rfl w.heap.size 105 i0 _ 3 24 Tryz.underlying31 hi0 hz0 hz1 hz2 rfl (by omega) (.slice (some ⟨w.heap.size,0,none⟩) 0 0) 0 [] rfl (Ze HOWN) B A pp.length c (pp.flatMap Zao) rfl (Ze HR1) (Ze HONE) ?_ ?_ ?_ pp.length _ (by omega) (List.nil_append _) ?_;(unfold maxLen;omega);omega;(simp);intro A1 c1 w1 ho1 hb1q;(have hb1:Below w.heap.size w w1:=((Below.refl w.heap.size w).alloc (Nat.le_refl _) _).trans hb1q);clear hb1q)|(go_at_call 94;refine (Ze HAP _ hb1).mono ?_;rw [H2.out];rintro e w2 ⟨rfl,hb2⟩))
   refine bodyPost_ret (v:=.tuple #[.slice A1 pp.length c1,.bool false]) (by simp [results,Tryz.results229,go_sem, *]) rfl ?_
   exact Zci HR.out ⟨A1,c1,rfl,ZbL.of (Zx ho1 hb2) (by first|exact Nat.le_refl _|exact hb2.size),hb1.trans (hb2.mono hb1.size)⟩
end Go.Proofs.YtlimlolciekimaaGreatDoor
