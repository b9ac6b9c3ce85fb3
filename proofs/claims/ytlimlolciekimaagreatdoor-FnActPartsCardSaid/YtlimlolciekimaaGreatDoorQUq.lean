/- Contracts of the program's and the reference's functions (RowsA, RowInt, RowAct, OwnA, UWorkN). -/
import Derived.Test.YtlimlolciekimaaGreatDoorRows
import Derived.Test.YtlimlolciekimaaGreatDoorQUb
import Derived.Test.YtlimlolciekimaaGreatDoorQUo
import Derived.Test.YtlimlolciekimaaGreatDoorQUm
namespace Go.Proofs.YtlimlolciekimaaGreatDoor
set_option maxHeartbeats 1600000
open Go.ChangeShapes Go.WideShapes Go.ChangeAt Go.RowKit
set_option linter.unusedVariables false
set_option maxRecDepth 10000
structure PAct where
 (k a b:Int)
def actCells (s:PAct):List Value:=[.int .i64 s.k,.int .i64 s.a,.int .i64 s.b]
theorem actCells_len (s:PAct):(actCells s).length=3:=rfl
structure Acts (w:World) (B:Nat) (A:Option Addr) (n:Nat) (l:List PAct):Prop where
 rd:Reads w B 3 A n (l.flatMap actCells)
 nb:n≤16777216
section
variable {w w':World} {B B' n:Nat} {A:Option Addr} {l:List PAct}
theorem Acts.len (h:Acts w B A n l):l.length=n:=by
 have:=h.rd.1;rw [flat_len actCells_len] at this;omega
theorem Acts.below (h:Acts w B A n l) (hb:Below B w w'):Acts w' B A n l:=⟨h.rd.below hb,h.nb⟩
theorem Acts.at_ {k:Nat} (h:Acts w B A n l) (hk:k<n):∃ (hk':k<l.length) (ad:Addr),A=some ad∧ad.block<B∧w.cell? (ad.add (k * 3))=some (.int .i64 l[k].k)∧w.cell? ⟨(ad.add (k * 3)).block,(ad.add (k * 3)).off+1,none⟩=some (.int .i64 l[k].a)∧w.cell? ⟨(ad.add (k * 3)).block,(ad.add (k * 3)).off+2,none⟩=some (.int .i64 l[k].b):=by
 have hl:=h.len
 have hk':k<l.length:=by omega
 obtain ⟨ad,e,hb,hc⟩:=h.rd.2 (by omega)
 have hg:=fun j hj=>flat_get actCells_len l k j hk' hj
 exact ⟨hk',ad,e,hb,hc _ _ (hg 0 (by omega)),by rw [← add_next _ _ _ (by omega)];exact hc _ _ (hg 1 (by omega)),by rw [← add_next _ _ _ (by omega)];exact hc _ _ (hg 2 (by omega))⟩
end
open Go.ChangeShapes Go.WideShapes Go.ChangeAt Go.RowKit
set_option linter.unusedVariables false
set_option maxRecDepth 10000
structure OwnN (w:World) (lo hi:Nat) (A:Option Addr) (c:Nat) (l:List Int):Prop where
 row:w.ownsRow lo 3 1 (.slice A l.length c) l.length (ints l)
 top:∀ k,(Value.slice A l.length c).ownBlock=some k→k<hi
def marksN (k:Int) (n:Nat):List Value:=(List.range n).map fun i=>Value.int .i64 (k+(i:Nat))
structure MkN (w:World) (lo hi:Nat) (A:Option Addr) (c:Nat) (k:Int) (n:Nat):Prop where
 row:w.ownsRow lo 3 1 (.slice A n c) n (marksN k n)
 top:∀ k,(Value.slice A n c).ownBlock=some k→k<hi
section
variable {lo hi lo' hi':Nat} {w w':World} {A:Option Addr} {c n:Nat} {l:List Int} {k:Int}
theorem OwnN.below (ho:OwnN w lo hi A c l) (hb:Below w.heap.size w w'):OwnN w' lo hi A c l:=⟨own_below ho.row hb,ho.top⟩
theorem OwnN.box {g:Nat} {cs:Array Value} {t:TypeId} {fr:Nat×Nat} (ho:OwnN w lo hi A c l) (hk:w.heap[g]?=some (.cells cs t fr)) (ht:t∉rowTys) (hg:w.grownBy w' (some g)):OwnN w' lo hi A c l:=⟨own_box ho.row (by decide) hk ht hg,ho.top⟩
theorem OwnN.boxy (ho:OwnN w lo hi A c l) (h:Boxy w w'):OwnN w' lo hi A c l:=⟨own_boxy ho.row (by decide) h,ho.top⟩
theorem OwnN.alloc (ho:OwnN w lo hi A c l) (o:Obj):OwnN (w.alloc o) lo hi A c l:=⟨ho.row.alloc _,ho.top⟩
theorem OwnN.wide (ho:OwnN w lo hi A c l) (h1:lo'≤lo) (h2:hi≤hi'):OwnN w lo' hi' A c l:=⟨own_base ho.row h1,fun k hk=>by have:=ho.top k hk;omega⟩
theorem OwnN.of (ho:w.ownsRow lo 3 1 (.slice A l.length c) l.length (ints l)) (h:w.heap.size≤hi):OwnN w lo hi A c l:=⟨ho,fun k hk=>by have:=(ho.lt k hk).2;omega⟩
theorem OwnN.rd (ho:OwnN w lo hi A c l):Reads w w.heap.size 1 A l.length (ints l):=Reads.of_own ho.row
end
def UInts (l:List Int) (w:World) (e:Ending) (w':World):Prop :=
 ∃ A c,e=.returned (.slice A l.length c)∧OwnN w' w.heap.size w'.heap.size A c l∧Below w.heap.size w w'
open Go.ChangeShapes Go.WideShapes Go.ChangeAt Go.RowKit
set_option linter.unusedVariables false
set_option maxRecDepth 10000
theorem info_actCells:(Tryz.prog.info? 61).map (fun i=>(i.zero,i.size,i.bytes))=some (some (.agg #[.int .i64 0,.int .i64 0,.int .i64 0]),3,24):=by kernel_rfl
def mkAct (k:Int):List Value:=[.int .i64 (k),.int .i64 (k+1),.int .i64 (k+1+1)]
def marksAct (k:Int) (n:Nat):List Value:=(List.range n).flatMap fun (i:Nat)=>mkAct (k+3 * (i:Int))
structure OwnA (w:World) (lo hi:Nat) (A:Option Addr) (c:Nat) (l:List PAct):Prop where
 row:w.ownsRow lo 61 3 (.slice A l.length c) l.length (l.flatMap actCells)
 top:∀ k,(Value.slice A l.length c).ownBlock=some k→k<hi
section
variable {lo hi lo' hi':Nat} {w w':World} {A:Option Addr} {c:Nat} {l:List PAct}
theorem OwnA.below (ho:OwnA w lo hi A c l) (hb:Below w.heap.size w w'):OwnA w' lo hi A c l:=⟨own_below ho.row hb,ho.top⟩
theorem OwnA.boxy (ho:OwnA w lo hi A c l) (h:Boxy w w'):OwnA w' lo hi A c l:=⟨own_boxy ho.row (by decide) h,ho.top⟩
theorem OwnA.alloc (ho:OwnA w lo hi A c l) (o:Obj):OwnA (w.alloc o) lo hi A c l:=⟨ho.row.alloc _,ho.top⟩
theorem OwnA.wide (ho:OwnA w lo hi A c l) (h1:lo'≤lo) (h2:hi≤hi'):OwnA w lo' hi' A c l:=⟨own_base ho.row h1,fun k hk=>by have:=ho.top k hk;omega⟩
theorem OwnA.of (ho:w.ownsRow lo 61 3 (.slice A l.length c) l.length (l.flatMap actCells)) (h:w.heap.size≤hi):OwnA w lo hi A c l:=⟨ho,fun k hk=>by have:=(ho.lt k hk).2;omega⟩
theorem OwnA.rd (ho:OwnA w lo hi A c l) (hn:l.length≤16777216):Acts w w.heap.size A l.length l:=⟨Reads.of_own ho.row,hn⟩
end
structure MkA (w:World) (lo hi:Nat) (A:Option Addr) (c:Nat) (k:Int) (n:Nat):Prop where
 row:w.ownsRow lo 61 3 (.slice A n c) n (marksAct k n)
 top:∀ k,(Value.slice A n c).ownBlock=some k→k<hi
def UActs (l:List PAct) (w:World) (e:Ending) (w':World):Prop :=
 ∃ A c,e=.returned (.slice A l.length c)∧OwnA w' w.heap.size w'.heap.size A c l∧Below w.heap.size w w'
open Go.ChangeShapes Go.WideShapes Go.ChangeAt Go.RowKit
set_option linter.unusedVariables false
set_option maxRecDepth 10000
structure OwnWN (w:World) (lo hi:Nat) (A1:Option Addr) (c1:Nat) (A2:Option Addr) (c2:Nat) (A3:Option Addr) (c3:Nat) (A4:Option Addr) (c4:Nat) (A5:Option Addr) (c5:Nat) (A6:Option Addr) (c6:Nat) (D:PDraft) (P:List PItem) (pp:List PPaper) (xs:List Int):Prop where
 all:∃ l1 h1 l2 h2,(lo≤l1∧h1≤hi∧lo≤l2∧h2≤hi)∧(h1≤l2∨h2≤l1)∧OwnW w l1 h1 A1 c1 A2 c2 A3 c3 A4 c4 A5 c5 D P pp∧OwnN w l2 h2 A6 c6 xs
section
variable {lo hi lo' hi':Nat} {w w':World} {A1 A2 A3 A4 A5 A6:Option Addr} {c1 c2 c3 c4 c5 c6:Nat} {D:PDraft} {P:List PItem} {pp:List PPaper} {xs:List Int}
theorem OwnWN.mk2 {l1 h1 l2 h2:Nat} (x:OwnW w l1 h1 A1 c1 A2 c2 A3 c3 A4 c4 A5 c5 D P pp) (y:OwnN w l2 h2 A6 c6 xs) (hr:lo≤l1∧h1≤hi∧lo≤l2∧h2≤hi) (ha:h1≤l2∨h2≤l1):OwnWN w lo hi A1 c1 A2 c2 A3 c3 A4 c4 A5 c5 A6 c6 D P pp xs:=⟨⟨l1,h1,l2,h2,hr,ha,x,y⟩⟩
theorem OwnWN.below (ho:OwnWN w lo hi A1 c1 A2 c2 A3 c3 A4 c4 A5 c5 A6 c6 D P pp xs) (hb:Below w.heap.size w w'):OwnWN w' lo hi A1 c1 A2 c2 A3 c3 A4 c4 A5 c5 A6 c6 D P pp xs:=by
 obtain ⟨l1,h1,l2,h2,hr,ha,x,y⟩:=ho.all
 exact .mk2 (x.below hb) (y.below hb) hr ha
theorem OwnWN.box (ho:OwnWN w lo hi A1 c1 A2 c2 A3 c3 A4 c4 A5 c5 A6 c6 D P pp xs) {g:Nat} {cs:Array Value} {t:TypeId} {fr:Nat×Nat} (hk:w.heap[g]?=some (.cells cs t fr)) (ht:t∉rowTys) (hg:w.grownBy w' (some g)):OwnWN w' lo hi A1 c1 A2 c2 A3 c3 A4 c4 A5 c5 A6 c6 D P pp xs:=by
 obtain ⟨l1,h1,l2,h2,hr,ha,x,y⟩:=ho.all
 exact .mk2 (x.box hk ht hg) (y.box hk ht hg) hr ha
theorem OwnWN.alloc (ho:OwnWN w lo hi A1 c1 A2 c2 A3 c3 A4 c4 A5 c5 A6 c6 D P pp xs) (o:Obj):OwnWN (w.alloc o) lo hi A1 c1 A2 c2 A3 c3 A4 c4 A5 c5 A6 c6 D P pp xs:=by
 obtain ⟨l1,h1,l2,h2,hr,ha,x,y⟩:=ho.all
 exact .mk2 (x.alloc o) (y.alloc o) hr ha
theorem OwnWN.wide (ho:OwnWN w lo hi A1 c1 A2 c2 A3 c3 A4 c4 A5 c5 A6 c6 D P pp xs) (k1:lo'≤lo) (k2:hi≤hi'):OwnWN w lo' hi' A1 c1 A2 c2 A3 c3 A4 c4 A5 c5 A6 c6 D P pp xs:=by
 obtain ⟨l1,h1,l2,h2,hr,ha,x,y⟩:=ho.all
 exact .mk2 x y (by omega) ha
end
def UWorkN (d1 f1:Int) (ss1:List ByteArray) (d2 f2:Int) (ss2:List ByteArray) (st:List PStep) (P:List PItem) (pp:List PPaper) (m:Int) (xs:List Int) (w:World) (e:Ending) (w':World):Prop :=
 ∃ B1 e1 B2 e2 B3 e3 B4 e4 B5 e5 B6 e6,e=.returned (.tuple #[.agg #[.int .i64 d1,.int .i64 f1,.slice B1 ss1.length e1,.int .i64 d2,.int .i64 f2,.slice B2 ss2.length e2,.slice B3 st.length e3,.slice B4 P.length e4,.slice B5 pp.length e5,.int .i64 m],.slice B6 xs.length e6])∧OwnWN w' w.heap.size w'.heap.size B1 e1 B2 e2 B3 e3 B4 e4 B5 e5 B6 e6 ⟨d1,f1,ss1,d2,f2,ss2,st⟩ P pp xs∧Below w.heap.size w w'
end Go.Proofs.YtlimlolciekimaaGreatDoor
