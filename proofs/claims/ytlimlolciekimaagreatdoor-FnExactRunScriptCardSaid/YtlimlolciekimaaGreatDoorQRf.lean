/- Contracts of the program's and the reference's functions (Draft1, UDraft, UDraftW, Draft3, Draft2, Undo1, Draft4, Draft5, Draft6, Draft7). -/
import Derived.Deep.DeepCutAuto
import Derived.Deep.RegionHeld3
import Derived.Deep.RegionLaw
import Derived.Test.YtlimlolciekimaaGreatDoorRows
import Derived.Test.YtlimlolciekimaaGreatDoorQRb
import Derived.Test.YtlimlolciekimaaGreatDoorQRa
import Derived.Test.YtlimlolciekimaaGreatDoorQRe
namespace Go.Proofs.YtlimlolciekimaaGreatDoor
set_option maxHeartbeats 1600000
open Go.ChangeShapes Go.WideShapes Go.ChangeAt Go.RowKit
set_option linter.unusedVariables false
set_option maxRecDepth 10000
def Zl6:List Zv→Int→Int
 |[],left=>left
 |s :: l,left=>if Zog s.b s.a left<0 then -1 else Zl6 l (Zog s.b s.a left)
def ZoZ (l:List Zv) (left:Int):Int:=if left - l.length<0 then -1 else Zl6 l (left - l.length)
structure Zd where
 (d1 f1:Int)
 (ss1:List ByteArray)
 (d2 f2:Int)
 (ss2:List ByteArray)
 (st:List Zv)
def szD (D:Zd) (left:Int):Int :=
 if ZgB D.ss1 left<0 then -1 else if ZgB D.ss2 (ZgB D.ss1 left)<0 then -1 else ZoZ D.st (ZgB D.ss2 (ZgB D.ss1 left))
structure ZbY (w:World) (B:Nat) (A1 A2 A3:Option Addr) (D:Zd):Prop where
 s1:ZaJ w B A1 D.ss1.length D.ss1
 s2:ZaJ w B A2 D.ss2.length D.ss2
 st:Zd2 w B A3 D.st.length D.st
section
variable {w w':World} {B B':Nat} {A1 A2 A3:Option Addr} {D:Zd}
theorem ZbY.below (h:ZbY w B A1 A2 A3 D) (hb:Below B w w'):ZbY w' B A1 A2 A3 D:=⟨h.s1.below hb,h.s2.below hb,h.st.below hb⟩
theorem ZbY.alloc (h:ZbY w B A1 A2 A3 D) (hB:B≤w.heap.size) (o:Obj):ZbY (w.alloc o) B A1 A2 A3 D:=⟨h.s1.alloc hB o,h.s2.alloc hB o,h.st.alloc hB o⟩
end
def Zc2 (D:Zd) (A1:Option Addr) (c1:Nat) (A2:Option Addr) (c2:Nat) (A3:Option Addr) (c3:Nat):Array Value :=
 #[.int .i64 D.d1,.int .i64 D.f1,.slice A1 D.ss1.length c1,.int .i64 D.d2,.int .i64 D.f2,.slice A2 D.ss2.length c2,.slice A3 D.st.length c3]
structure Zih (w:World) (base:Nat) (A1:Option Addr) (c1:Nat) (A2:Option Addr) (c2:Nat) (A3:Option Addr) (c3:Nat) (D:Zd):Prop where
 o1:w.ownsRow base 9 1 (.slice A1 D.ss1.length c1) D.ss1.length (D.ss1.map Value.string)
 o2:w.ownsRow base 9 1 (.slice A2 D.ss2.length c2) D.ss2.length (D.ss2.map Value.string)
 o3:w.ownsRow base 167 7 (.slice A3 D.st.length c3) D.st.length (D.st.flatMap ZaY)
 ne:∀ k,(Value.slice A1 D.ss1.length c1).ownBlock=some k→(Value.slice A2 D.ss2.length c2).ownBlock≠some k
structure Zdw (D:Zd) (m:Nat):Prop where
 l1:D.ss1.length≤m
 l2:D.ss2.length≤m
 l3:D.st.length≤m
 z1:∀ s∈D.ss1,s.size≤16777216
 z2:∀ s∈D.ss2,s.size≤16777216
 z3:∀ s∈D.st,s.b.size≤16777216∧s.a.size≤16777216
def Zpr (base:Nat) (D:Zd) (w:World) (e:Ending) (w':World):Prop :=
 ∃ A1 c1 A2 c2 A3 c3,e=.returned (.agg (Zc2 D A1 c1 A2 c2 A3 c3))∧Zih w' base A1 c1 A2 c2 A3 c3 D∧Below w.heap.size w w'
open Go.ChangeShapes Go.WideShapes Go.ChangeAt Go.RowKit
set_option linter.unusedVariables false
set_option maxRecDepth 10000
structure ZbN (w:World) (lo hi:Nat) (A:Option Addr) (c:Nat) (st:List Zv):Prop where
 row:w.ownsRow lo 167 7 (.slice A st.length c) st.length (st.flatMap ZaY)
 top:∀ k,(Value.slice A st.length c).ownBlock=some k→k<hi
section
variable {lo hi lo' hi':Nat} {w w':World} {A:Option Addr} {c:Nat} {st:List Zv}
theorem ZbN.within {l h:Nat} (ho:ZbN w lo hi A c st) (hW:Zcv l h w w') (hd:hi≤l∨h≤lo):ZbN w' lo hi A c st :=
 ⟨ZeE ho.row hW (fun k hk=>by have h1:=ho.top k hk;have h2:=(ho.row.lt k hk).1;omega),ho.top⟩
theorem ZbN.below (ho:ZbN w lo hi A c st) (hb:Below w.heap.size w w'):ZbN w' lo hi A c st:=⟨Zx ho.row hb,ho.top⟩
theorem ZbN.box {g:Nat} {cs:Array Value} {t:TypeId} {fr:Nat×Nat} (ho:ZbN w lo hi A c st) (hk:w.heap[g]?=some (.cells cs t fr)) (ht:t∉Zc9) (hg:w.grownBy w' (some g)):ZbN w' lo hi A c st:=⟨Zhv ho.row (by decide) hk ht hg,ho.top⟩
theorem ZbN.boxy (ho:ZbN w lo hi A c st) (h:Zj w w'):ZbN w' lo hi A c st:=⟨Ze9 ho.row (by decide) h,ho.top⟩
theorem ZbN.drew (ho:ZbN w lo hi A c st):ZbN w.drew lo hi A c st:=⟨ho.row,ho.top⟩
theorem ZbN.alloc (ho:ZbN w lo hi A c st) (o:Obj):ZbN (w.alloc o) lo hi A c st:=⟨ho.row.alloc _,ho.top⟩
theorem ZbN.wide (ho:ZbN w lo hi A c st) (h1:lo'≤lo) (h2:hi≤hi'):ZbN w lo' hi' A c st:=⟨Zbr ho.row h1,fun k hk=>by have:=ho.top k hk;omega⟩
theorem ZbN.of (ho:w.ownsRow lo 167 7 (.slice A st.length c) st.length (st.flatMap ZaY)) (h:w.heap.size≤hi):ZbN w lo hi A c st:=⟨ho,fun k hk=>by have:=(ho.lt k hk).2;omega⟩
end
structure ZcX (w:World) (lo hi:Nat) (A1:Option Addr) (c1:Nat) (A2:Option Addr) (c2:Nat) (A3:Option Addr) (c3:Nat) (D:Zd):Prop where
 o1:Zaa w lo hi A1 c1 D.ss1
 o2:Zaa w lo hi A2 c2 D.ss2
 o3:ZbN w lo hi A3 c3 D.st
 ne:∀ k,(Value.slice A1 D.ss1.length c1).ownBlock=some k→(Value.slice A2 D.ss2.length c2).ownBlock≠some k
section
variable {lo hi lo' hi':Nat} {w w':World} {A1 A2 A3:Option Addr} {c1 c2 c3:Nat} {D:Zd}
theorem ZcX.below (ho:ZcX w lo hi A1 c1 A2 c2 A3 c3 D) (hb:Below w.heap.size w w'):ZcX w' lo hi A1 c1 A2 c2 A3 c3 D:=⟨ho.o1.below hb,ho.o2.below hb,ho.o3.below hb,ho.ne⟩
theorem ZcX.boxy (ho:ZcX w lo hi A1 c1 A2 c2 A3 c3 D) (h:Zj w w'):ZcX w' lo hi A1 c1 A2 c2 A3 c3 D:=⟨ho.o1.boxy h,ho.o2.boxy h,ho.o3.boxy h,ho.ne⟩
theorem ZcX.alloc (ho:ZcX w lo hi A1 c1 A2 c2 A3 c3 D) (o:Obj):ZcX (w.alloc o) lo hi A1 c1 A2 c2 A3 c3 D:=⟨ho.o1.alloc o,ho.o2.alloc o,ho.o3.alloc o,ho.ne⟩
theorem ZcX.wide (ho:ZcX w lo hi A1 c1 A2 c2 A3 c3 D) (h1:lo'≤lo) (h2:hi≤hi'):ZcX w lo' hi' A1 c1 A2 c2 A3 c3 D:=⟨ho.o1.wide h1 h2,ho.o2.wide h1 h2,ho.o3.wide h1 h2,ho.ne⟩
theorem ZcX.of (ho:Zih w lo A1 c1 A2 c2 A3 c3 D) (h:w.heap.size≤hi):ZcX w lo hi A1 c1 A2 c2 A3 c3 D:=⟨Zaa.of ho.o1 h,Zaa.of ho.o2 h,ZbN.of ho.o3 h,ho.ne⟩
end
def ZlV (d1 f1:Int) (ss1:List ByteArray) (d2 f2:Int) (ss2:List ByteArray) (st:List Zv) (w:World) (e:Ending) (w':World):Prop :=
 ∃ B1 e1 B2 e2 B3 e3,e=.returned (.agg #[.int .i64 d1,.int .i64 f1,.slice B1 ss1.length e1,.int .i64 d2,.int .i64 f2,.slice B2 ss2.length e2,.slice B3 st.length e3])∧ZcX w' w.heap.size w'.heap.size B1 e1 B2 e2 B3 e3 ⟨d1,f1,ss1,d2,f2,ss2,st⟩∧Below w.heap.size w w'
def ZdV (d1 f1:Int) (ss1:List ByteArray) (d2 f2:Int) (ss2:List ByteArray) (st:List Zv) (b:Bool) (w:World) (e:Ending) (w':World):Prop :=
 ∃ B1 e1 B2 e2 B3 e3,e=.returned (.tuple #[.agg #[.int .i64 d1,.int .i64 f1,.slice B1 ss1.length e1,.int .i64 d2,.int .i64 f2,.slice B2 ss2.length e2,.slice B3 st.length e3],.bool b])∧ZcX w' w.heap.size w'.heap.size B1 e1 B2 e2 B3 e3 ⟨d1,f1,ss1,d2,f2,ss2,st⟩∧Below w.heap.size w w'
structure MkD (w:World) (lo hi:Nat) (A1:Option Addr) (c1 n1:Nat) (A2:Option Addr) (c2 n2:Nat) (A3:Option Addr) (c3 n3:Nat) (k:Int):Prop where
 m1:MkS w lo hi A1 c1 k n1
 m2:MkS w lo hi A2 c2 (k+n1) n2
 m3:w.ownsRow lo 167 7 (.slice A3 n3 c3) n3 (Zjn (k+n1+n2) n3)
section
variable {lo hi:Nat} {w w':World} {A1 A2 A3:Option Addr} {c1 c2 c3 n1 n2 n3:Nat} {k:Int}
end
open Go.ChangeShapes Go.WideShapes Go.ChangeAt Go.RowKit
set_option linter.unusedVariables false
set_option maxRecDepth 10000
structure ZbF (w:World) (lo hi:Nat) (A1:Option Addr) (c1:Nat) (A2:Option Addr) (c2:Nat) (A3:Option Addr) (c3:Nat) (D:Zd):Prop where
 o1:Zaa w lo hi A1 c1 D.ss1
 o2:Zaa w lo hi A2 c2 D.ss2
 o3:∃ c0,ZbN w lo hi A3 c0 D.st
 ne:∀ k,(Value.slice A1 D.ss1.length c1).ownBlock=some k→(Value.slice A2 D.ss2.length c2).ownBlock≠some k
section
variable {lo hi lo' hi':Nat} {w w':World} {A1 A2 A3:Option Addr} {c1 c2 c3:Nat} {D:Zd}
theorem ZbF.within {l h:Nat} (ho:ZbF w lo hi A1 c1 A2 c2 A3 c3 D) (hW:Zcv l h w w') (hd:hi≤l∨h≤lo):ZbF w' lo hi A1 c1 A2 c2 A3 c3 D:=⟨ho.o1.within hW hd,ho.o2.within hW hd,(ho.o3.elim fun c0 h3=>⟨c0,h3.within hW hd⟩),ho.ne⟩
theorem ZbF.below (ho:ZbF w lo hi A1 c1 A2 c2 A3 c3 D) (hb:Below w.heap.size w w'):ZbF w' lo hi A1 c1 A2 c2 A3 c3 D:=⟨ho.o1.below hb,ho.o2.below hb,(ho.o3.elim fun c0 h3=>⟨c0,h3.below hb⟩),ho.ne⟩
theorem ZbF.box {g:Nat} {cs:Array Value} {t:TypeId} {fr:Nat×Nat} (ho:ZbF w lo hi A1 c1 A2 c2 A3 c3 D) (hk:w.heap[g]?=some (.cells cs t fr)) (ht:t∉Zc9) (hg:w.grownBy w' (some g)):ZbF w' lo hi A1 c1 A2 c2 A3 c3 D:=⟨ho.o1.box hk ht hg,ho.o2.box hk ht hg,(ho.o3.elim fun c0 h3=>⟨c0,h3.box hk ht hg⟩),ho.ne⟩
theorem ZbF.boxy (ho:ZbF w lo hi A1 c1 A2 c2 A3 c3 D) (h:Zj w w'):ZbF w' lo hi A1 c1 A2 c2 A3 c3 D:=⟨ho.o1.boxy h,ho.o2.boxy h,(ho.o3.elim fun c0 h3=>⟨c0,h3.boxy h⟩),ho.ne⟩
theorem ZbF.drew (ho:ZbF w lo hi A1 c1 A2 c2 A3 c3 D):ZbF w.drew lo hi A1 c1 A2 c2 A3 c3 D:=⟨ho.o1.drew,ho.o2.drew,(ho.o3.elim fun c0 h3=>⟨c0,h3.drew⟩),ho.ne⟩
theorem ZbF.alloc (ho:ZbF w lo hi A1 c1 A2 c2 A3 c3 D) (o:Obj):ZbF (w.alloc o) lo hi A1 c1 A2 c2 A3 c3 D:=⟨ho.o1.alloc o,ho.o2.alloc o,(ho.o3.elim fun c0 h3=>⟨c0,h3.alloc o⟩),ho.ne⟩
theorem ZbF.of (ho:ZcX w lo hi A1 c1 A2 c2 A3 c3 D):ZbF w lo hi A1 c1 A2 c2 A3 c3 D:=⟨ho.o1,ho.o2,⟨c3,ho.o3⟩,ho.ne⟩
theorem ZbF.rd (ho:ZbF w lo hi A1 c1 A2 c2 A3 c3 D) (hD:Zdw D 16777216):ZbY w w.heap.size A1 A2 A3 D:=by
 obtain ⟨c0,h3⟩:=ho.o3
 exact ⟨ho.o1.rd hD.l1 hD.z1,ho.o2.rd hD.l2 hD.z2,⟨Zal.of_own h3.row,hD.l3,hD.z3⟩⟩
end
def ZoA (d1 f1:Int) (ss1:List ByteArray) (d2 f2:Int) (ss2:List ByteArray) (st:List Zv) (w:World) (e:Ending) (w':World):Prop :=
 ∃ B1 e1 B2 e2 B3 e3,e=.returned (.agg #[.int .i64 d1,.int .i64 f1,.slice B1 ss1.length e1,.int .i64 d2,.int .i64 f2,.slice B2 ss2.length e2,.slice B3 st.length e3])∧ZbF w' w.heap.size w'.heap.size B1 e1 B2 e2 B3 e3 ⟨d1,f1,ss1,d2,f2,ss2,st⟩∧Below w.heap.size w w'
def Ze0 (d1 f1:Int) (ss1:List ByteArray) (d2 f2:Int) (ss2:List ByteArray) (st:List Zv) (b:Bool) (w:World) (e:Ending) (w':World):Prop :=
 ∃ B1 e1 B2 e2 B3 e3,e=.returned (.tuple #[.agg #[.int .i64 d1,.int .i64 f1,.slice B1 ss1.length e1,.int .i64 d2,.int .i64 f2,.slice B2 ss2.length e2,.slice B3 st.length e3],.bool b])∧ZbF w' w.heap.size w'.heap.size B1 e1 B2 e2 B3 e3 ⟨d1,f1,ss1,d2,f2,ss2,st⟩∧Below w.heap.size w w'
structure Zqs (w:World) (lo hi:Nat) (A1:Option Addr) (c1 n1:Nat) (A2:Option Addr) (c2 n2:Nat) (A3:Option Addr) (c3 n3:Nat) (k:Int):Prop where
 m1:MkS w lo hi A1 c1 k n1
 m2:MkS w lo hi A2 c2 (k+n1) n2
 m3:∃ c0,w.ownsRow lo 167 7 (.slice A3 n3 c0) n3 (Zjn (k+n1+n2) n3)
section
variable {lo hi:Nat} {w w':World} {A1 A2 A3:Option Addr} {c1 c2 c3 n1 n2 n3:Nat} {k:Int}
end
open Go.ChangeShapes Go.WideShapes Go.ChangeAt Go.RowKit
set_option linter.unusedVariables false
set_option maxRecDepth 10000
theorem Zdw.more {D:Zd} {m k:Nat} (h:Zdw D m) (hm:m≤k):Zdw D k:=⟨by have:=h.l1;omega,by have:=h.l2;omega,by have:=h.l3;omega,h.z1,h.z2,h.z3⟩
structure Zp8 (w:World) (B:Nat) (A1 A2 A3:Option Addr) (D:Zd):Prop where
 r1:Zal w B 1 A1 D.ss1.length (D.ss1.map Value.string)
 r2:Zal w B 1 A2 D.ss2.length (D.ss2.map Value.string)
 r3:Zal w B 7 A3 D.st.length (D.st.flatMap ZaY)
 n1:D.ss1.length≤9223372036854775807
 n2:D.ss2.length≤9223372036854775807
 n3:D.st.length≤9223372036854775807
 z1:∀ s∈D.ss1,s.size≤9223372036854775807
 z2:∀ s∈D.ss2,s.size≤9223372036854775807
 z3:∀ s∈D.st,s.b.size≤9223372036854775807∧s.a.size≤9223372036854775807
theorem ZmG (B:Nat) (A1 A2:Option Addr) (n1 n2 c1 c2:Nat) (ss ts:List ByteArray) (w:World) (h1:ZaJ w B A1 n1 ss) (h2:ZaJ w B A2 n2 ts) :
  Calls Tryz.prog 191 #[.slice A1 n1 c1,.slice A2 n2 c2] w fun e w'=>e=.returned (.bool (Zdu ss ts))∧∃ m,w'=w.drewN m:=by
 have hl1:=h1.len
 have hl2:=h2.len
 have hn1:=h1.nb
 have hn2:=h2.nb
 by_cases hn:n1=n2
 ·subst hn
  have HL1:=Lib.hid hl1
  have HL2:=Lib.hid hl2
  clear hl1 hl2
  go_enter Tryz.func191,Tryz.ntmps191
  go_wp2
  go_loopw [13] (fun i wr=>∃ j m:Nat,j≤n1∧i=.int .i64 j∧wr=w.drewN m∧Hid (ss.take j=ts.take j)) (fun i _=>n1 - (intOf i).toNat)
  case atStart=>exact ⟨0,0,Nat.zero_le _,rfl,rfl,by unfold Hid;simp⟩
  case round =>
   obtain ⟨j,m,hj,rfl,rfl,HT⟩:=hrel
   by_cases hlt:j<n1
   ·obtain ⟨hk1,ad1,rfl,hab1,hc1,_⟩:=h1.at_ hlt
    obtain ⟨hk2,ad2,rfl,hab2,hc2,_⟩:=h2.at_ hlt
    by_cases he:ss[j]=ts[j]
    ·have HE:=Lib.hid he
     have hbq:=ZaU he
     clear he
     go_wp2
     go_quiet (fail)
     go_wp2
     go_roundw
     case rel =>
      refine ⟨j+1,_,by omega,by go_num,by first|rfl|exact World.drewN_drewN _ _ _,?_⟩
      unfold Hid
      rw [List.take_succ_eq_append_getElem hk1,List.take_succ_eq_append_getElem hk2,HT.out,HE.out]
     case measure=>simp [intOf];omega
    ·have HF:Hid (Zdu ss ts=false):=by
      unfold Hid Zdu
      rw [decide_eq_false_iff_not]
      intro h;subst h;exact he rfl
     have hbq:=ZaN he
     clear he
     go_wp2
     go_quiet (fail)
     go_wp2
     go_ret
     exact ⟨Zo HF.out.symm,by first|exact ⟨_,rfl⟩|exact ⟨_,World.drewN_drewN _ _ _⟩⟩
   ·have HF:Hid (Zdu ss ts=true):=by
     unfold Hid Zdu
     rw [decide_eq_true_iff]
     have h:=HT.out
     rw [List.take_of_length_le (by have:=HL1.out;omega),List.take_of_length_le (by have:=HL2.out;omega)] at h
     exact h
    go_wp2
    go_ret
    exact ⟨Zo HF.out.symm,by first|exact ⟨_,rfl⟩|exact ⟨_,World.drewN_drewN _ _ _⟩⟩
 ·have HF:Hid (Zdu ss ts=false):=by
   unfold Hid Zdu
   rw [decide_eq_false_iff_not]
   intro h;subst h;omega
  clear hl1 hl2
  go_enter Tryz.func191,Tryz.ntmps191
  go_wp2
  go_ret
  exact ⟨Zo HF.out.symm,⟨0,rfl⟩⟩
theorem Zh6 {w:World} {g g2:Nat} {o:Obj} (h:w.heap[g]?=some o) (hne:g≠g2) (a b c:Value):(((w.setCell ⟨g2,0,none⟩ a).setCell ⟨g2,1,none⟩ b).setCell ⟨g2,2,none⟩ c).heap[g]?=some o :=
 (Below.heap_setCell _ _ _ _ hne).trans ((Below.heap_setCell _ _ _ _ hne).trans ((Below.heap_setCell _ _ _ _ hne).trans h))
def ZcS (d f d2 f2:Int) (ss ts:List ByteArray):Bool:=(d==d2)&&((f==f2)&&Zdu ss ts)
theorem Zlc (d f d2 f2:Int) (B:Nat) (A A2:Option Addr) (n c n2 c2:Nat) (ss ts:List ByteArray) (w:World) (hS:ZaJ w B A n ss) (hT:ZaJ w B A2 n2 ts) (hB:B≤w.heap.size) :
  Calls Tryz.prog 135 #[.agg #[.int .i64 d,.int .i64 f,.slice A n c],.agg #[.int .i64 d2,.int .i64 f2,.slice A2 n2 c2]] w fun e w'=>e=.returned (.bool (ZcS d f d2 f2 ss ts))∧Below w.heap.size w w':=by
 have hn:=hS.nb
 have hn2:=hT.nb
 have hS2:=(hS.alloc hB (.cells #[.int .i64 d,.int .i64 f,.slice A n c] 26)).alloc (by simp;omega) (.cells #[.int .i64 d2,.int .i64 f2,.slice A2 n2 c2] 26)
 have hT2:=(hT.alloc hB (.cells #[.int .i64 d,.int .i64 f,.slice A n c] 26)).alloc (by simp;omega) (.cells #[.int .i64 d2,.int .i64 f2,.slice A2 n2 c2] 26)
 have arm:=fun (W:World) (h1:ZaJ W B A n ss) (h2:ZaJ W B A2 n2 ts)=>ZmG B A A2 n n2 c c2 ss ts W h1 h2
 have ARM:=Zk arm
 clear arm
 unfold ZcS
 cases h3:(d==d2)
 ·go_enter Tryz.func135,Tryz.ntmps135
  go_wp2
  go_ret
  exact ⟨rfl,bel⟩
 ·cases h4:(f==f2)
  ·go_enter Tryz.func135,Tryz.ntmps135
   go_wp2
   go_ret
   exact ⟨rfl,bel⟩
  ·go_enter Tryz.func135,Tryz.ntmps135
   go_wp2_with (go_at_call 191;refine (Ze ARM _ hS2 hT2).mono ?_;rintro e w' ⟨rfl,m,rfl⟩)
   go_ret
   exact ⟨Zo (by simp),bel⟩
theorem ZlU (d f d2 f2:Int) (B:Nat) (A A2:Option Addr) (n c n2 c2:Nat) (ss ts:List ByteArray) (w:World) (hS:ZaJ w B A n ss) (hT:ZaJ w B A2 n2 ts) (hB:B≤w.heap.size) :
  Calls Tryz.prog 29 #[.agg #[.int .i64 d,.int .i64 f,.slice A n c],.agg #[.int .i64 d2,.int .i64 f2,.slice A2 n2 c2]] w fun e w'=>e=.returned (.bool (ZcS d f d2 f2 ss ts))∧Below w.heap.size w w':=by
 have hn:=hS.nb
 have hn2:=hT.nb
 have hS2:=(hS.alloc hB (.cells #[.int .i64 d,.int .i64 f,.slice A n c] 26)).alloc (by simp;omega) (.cells #[.int .i64 d2,.int .i64 f2,.slice A2 n2 c2] 26)
 have hT2:=(hT.alloc hB (.cells #[.int .i64 d,.int .i64 f,.slice A n c] 26)).alloc (by simp;omega) (.cells #[.int .i64 d2,.int .i64 f2,.slice A2 n2 c2] 26)
 have hl:=hS.len
 have hl2:=hT.len
 have hnq:(n:Int)=n2→ss.length=ts.length:=fun h=>by omega
 have hnn:¬(n:Int)=n2→Zdu ss ts=false:=fun h=>by unfold Zdu;rw [decide_eq_false_iff_not];intro h2;subst h2;omega
 have HNN:=Zk hnn
 have HL:=Lib.hid hl
 have HL2:=Lib.hid hl2
 clear hl hl2 hnq hnn
 unfold ZcS
 cases h3:(d==d2)
 ·have e3:(d != d2)=true:=by simpa using h3
  go_enter Tryz.func29,Tryz.ntmps29
  go_wp2
  go_ret
  exact ⟨rfl,bel⟩
 ·have e3:(d != d2)=false:=by simpa using h3
  cases h4:(f==f2)
  ·have e4:(f != f2)=true:=by simpa using h4
   go_enter Tryz.func29,Tryz.ntmps29
   go_wp2
   go_ret
   exact ⟨rfl,bel⟩
  ·have e4:(f != f2)=false:=by simpa using h4
   cases h5:((n:Int)==(n2:Int))
   ·have HF:=Lib.hid (Ze HNN (by simpa using h5))
    have e5:((n:Int) != (n2:Int))=true:=by simpa using h5
    go_enter Tryz.func29,Tryz.ntmps29
    go_wp2
    go_ret
    exact ⟨Zo (by rw [HF.out];rfl),bel⟩
   ·have hni:(n:Int)=n2:=by simpa using h5
    have hnn:n=n2:=by omega
    clear hni
    subst hnn
    clear h5
    go_enter Tryz.func29,Tryz.ntmps29
    go_wp2
    go_loopw [5] (fun i wr=>∃ j m:Nat,j≤n∧i=.int .i64 j∧wr=((w.alloc (.cells #[.int .i64 d,.int .i64 f,.slice A n c] 26)).alloc (.cells #[.int .i64 d2,.int .i64 f2,.slice A2 n c2] 26)).drewN m∧Hid (ss.take j=ts.take j)) (fun i _=>n - (intOf i).toNat)
    case atStart=>exact ⟨0,0,Nat.zero_le _,rfl,rfl,by unfold Hid;simp⟩
    case round =>
     obtain ⟨j,m,hj,rfl,rfl,HT⟩:=hrel
     by_cases hlt:j<n
     ·obtain ⟨hk1,ad1,rfl,hab1,hc1,_⟩:=hS.at_ hlt
      obtain ⟨hk2,ad2,rfl,hab2,hc2,_⟩:=hT.at_ hlt
      have hcc1:∀ o p:Obj,((w.alloc o).alloc p).cell? (ad1.add j)=some (.string ss[j]):=fun o p=>by
       rw [World.cell?_alloc_lt _ _ _ (by rw [Zn];simp;omega),World.cell?_alloc_lt _ _ _ (by rw [Zn];omega)];exact hc1
      have hcc2:∀ o p:Obj,((w.alloc o).alloc p).cell? (ad2.add j)=some (.string ts[j]):=fun o p=>by
       rw [World.cell?_alloc_lt _ _ _ (by rw [Zn];simp;omega),World.cell?_alloc_lt _ _ _ (by rw [Zn];omega)];exact hc2
      by_cases he:ss[j]=ts[j]
      ·have HE:=Lib.hid he
       have hbq:=ZaU he
       clear he
       go_wp2
       go_quiet (fail)
       go_wp2
       go_roundw
       case rel =>
        refine ⟨j+1,_,by omega,by go_num,by first|rfl|exact World.drewN_drewN _ _ _,?_⟩
        unfold Hid
        rw [List.take_succ_eq_append_getElem hk1,List.take_succ_eq_append_getElem hk2,HT.out,HE.out]
       case measure=>simp [intOf];omega
      ·have HF:Hid (Zdu ss ts=false):=by
        unfold Hid Zdu
        rw [decide_eq_false_iff_not]
        intro h;subst h;exact he rfl
       have hbq:=ZaN he
       clear he
       go_wp2
       go_quiet (fail)
       go_wp2
       go_ret
       exact ⟨Zo (by rw [HF.out];rfl),bel⟩
     ·have HF:Hid (Zdu ss ts=true):=by
       unfold Hid Zdu
       rw [decide_eq_true_iff]
       have h:=HT.out
       rw [List.take_of_length_le (by have:=HL.out;omega),List.take_of_length_le (by have:=HL2.out;omega)] at h
       exact h
      go_wp2
      go_ret
      exact ⟨Zo (by rw [HF.out];rfl),bel⟩
def ZaL (d f:Int):List Zv→List ByteArray→Option (List ByteArray)
 |[],ss=>some ss
 |s :: l,ss=>if (Zab true d f ss s.K s.F s.L s.T s.I s.b s.a).2=true then ZaL d f l (Zab true d f ss s.K s.F s.L s.T s.I s.b s.a).1 else none
def ZaG (D:Zd):Bool :=
 (Zac D.d1 D.f1 D.ss1&&decide (D.st.length≤40))&&match ZaL D.d1 D.f1 D.st D.ss1 with|some ss=>ZcS D.d1 D.f1 D.d2 D.f2 ss D.ss2|none=>false
theorem Zfv {d f:Int} {ss:List ByteArray} {l:List Zv} {k:Nat} (h:k<l.length):ZaL d f (l.drop k) ss =
  if (Zab true d f ss l[k].K l[k].F l[k].L l[k].T l[k].I l[k].b l[k].a).2=true then ZaL d f (l.drop (k+1)) (Zab true d f ss l[k].K l[k].F l[k].L l[k].T l[k].I l[k].b l[k].a).1 else none:=by
 rw [List.drop_eq_getElem_cons h];rfl
theorem Zg9 {D:Zd} (h:Zac D.d1 D.f1 D.ss1=false):ZaG D=false:=by unfold ZaG;rw [h];rfl
theorem ZeY {D:Zd} (h:¬D.st.length≤40):ZaG D=false:=by unfold ZaG;rw [decide_eq_false h];simp
theorem Zgc {D:Zd} (h:ZaL D.d1 D.f1 D.st D.ss1=none):ZaG D=false:=by unfold ZaG;rw [h];simp
theorem Zgo {D:Zd} {ss:List ByteArray} (h1:Zac D.d1 D.f1 D.ss1=true) (h2:D.st.length≤40) (h:ZaL D.d1 D.f1 D.st D.ss1=some ss):ZaG D=ZcS D.d1 D.f1 D.d2 D.f2 ss D.ss2:=by unfold ZaG;rw [h,h1,decide_eq_true h2];rfl
set_option maxHeartbeats 6000000 in
theorem Zc3 (D:Zd) (B:Nat) (A1 A2 A3:Option Addr) (c1 c2 c3:Nat) (w:World) (hS:ZbY w B A1 A2 A3 D) (hB:B≤w.heap.size) :
  Calls Tryz.prog 82 #[.agg (Zc2 D A1 c1 A2 c2 A3 c3)] w fun e w'=>e=.returned (.bool (ZaG D))∧Below w.heap.size w w':=by
 obtain ⟨d1,f1,ss1,d2,f2,ss2,st⟩:=D
 obtain ⟨h1,h2,h3⟩:=hS
 simp only at h1 h2 h3
 have hp1:=Zg9 (D:=⟨d1,f1,ss1,d2,f2,ss2,st⟩)
 have hp2:=ZeY (D:=⟨d1,f1,ss1,d2,f2,ss2,st⟩)
 have hp3:=Zgc (D:=⟨d1,f1,ss1,d2,f2,ss2,st⟩)
 have hp4:=fun ss=>Zgo (D:=⟨d1,f1,ss1,d2,f2,ss2,st⟩) (ss:=ss)
 simp only at hp1 hp2 hp3 hp4
 generalize hr:ZaG ⟨d1,f1,ss1,d2,f2,ss2,st⟩=r at *
 clear hr
 unfold Zc2
 simp only
 have hn1:=h1.nb
 have hn2:=h2.nb
 have hn3:=h3.nb
 cases hck:Zac d1 f1 ss1
 ·have HP:=Lib.hid (hp1 hck)
  clear hp1 hp2 hp3 hp4
  go_enter Tryz.func82,Tryz.ntmps82
  go_wp2_with (first|(go_at_call 70;refine (Zb0 _ _ _ _ _ ss1 _ ((h1.alloc hB (.cells #[.int .i64 d1,.int .i64 f1,.slice A1 ss1.length c1,.int .i64 d2,.int .i64 f2,.slice A2 ss2.length c2,.slice A3 st.length c3] 29)).more (by simp;omega))).mono ?_;rw [hck];rintro e w1 ⟨rfl,hb1⟩;obtain ⟨hcb1,hfb1⟩:=Zw hb1;obtain ⟨qaa,qba⟩:=zs1 (show w.heap.size<w1.heap.size by have hzz:=hb1.size;(try simp at hzz);omega)))
  go_ret
  exact ⟨Zo HP.out.symm,bel⟩
 ·by_cases h40:st.length≤40
  ·have HP3:=Zk hp3
   have HP4:=Zk (hp4 · hck h40)
   clear hp1 hp2 hp3 hp4
   go_enter Tryz.func82,Tryz.ntmps82
   go_wp2_with (first|(go_at_call 70;refine (Zb0 _ _ _ _ _ ss1 _ ((h1.alloc hB (.cells #[.int .i64 d1,.int .i64 f1,.slice A1 ss1.length c1,.int .i64 d2,.int .i64 f2,.slice A2 ss2.length c2,.slice A3 st.length c3] 29)).more (by simp;omega))).mono ?_;rw [hck];rintro e w1 ⟨rfl,hb1⟩;obtain ⟨hcb1,hfb1⟩:=Zw hb1;obtain ⟨qaa,qba⟩:=zs1 (show w.heap.size<w1.heap.size by have hzz:=hb1.size;(try simp at hzz);omega)))
   have hkd:=Za (Zy w (.cells #[.int .i64 d1,.int .i64 f1,.slice A1 ss1.length c1,.int .i64 d2,.int .i64 f2,.slice A2 ss2.length c2,.slice A3 st.length c3] 29)) hb1
   have hw1s:=qaa
   have hbW:Below w.heap.size w (w1.alloc (.cells #[.int .i64 d1,.int .i64 f1,.slice A1 ss1.length c1] 26)):=bel
   have hkn:=Zy w1 (.cells #[.int .i64 d1,.int .i64 f1,.slice A1 ss1.length c1] 26)
   have hkd2:=Zb hkd (.cells #[.int .i64 d1,.int .i64 f1,.slice A1 ss1.length c1] 26)
   have hS0:ZaJ (w1.alloc (.cells #[.int .i64 d1,.int .i64 f1,.slice A1 ss1.length c1] 26)) (w1.alloc (.cells #[.int .i64 d1,.int .i64 f1,.slice A1 ss1.length c1] 26)).heap.size A1 ss1.length ss1:=(((h1.alloc hB (.cells #[.int .i64 d1,.int .i64 f1,.slice A1 ss1.length c1,.int .i64 d2,.int .i64 f2,.slice A2 ss2.length c2,.slice A3 st.length c3] 29)).below (hb1.mono (by simp;omega))).alloc (by omega) (.cells #[.int .i64 d1,.int .i64 f1,.slice A1 ss1.length c1] 26)).more (by simp;omega)
   have hg4:w1.heap.size<(w1.alloc (.cells #[.int .i64 d1,.int .i64 f1,.slice A1 ss1.length c1] 26)).heap.size:=by simp
   generalize w1.alloc (.cells #[.int .i64 d1,.int .i64 f1,.slice A1 ss1.length c1] 26)=w5 at *
   have hwB:w.heap.size≤w5.heap.size:=hbW.size
   go_loopw [23] (fun i wr=>∃ (k N:Nat) (A':Option Addr) (c':Nat) (sk:List ByteArray),k≤st.length∧N≤16777216∧i=.int .i64 k∧Hid (ZaL d1 f1 (st.drop k) sk=ZaL d1 f1 st ss1) ∧
     wr.heap[w1.heap.size]?=some (.cells #[.int .i64 d1,.int .i64 f1,.slice A' N c'] 26 (0,0))∧wr.heap[w.heap.size]?=some (.cells #[.int .i64 d1,.int .i64 f1,.slice A1 ss1.length c1,.int .i64 d2,.int .i64 f2,.slice A2 ss2.length c2,.slice A3 st.length c3] 29)∧ZaJ wr wr.heap.size A' N sk∧w5.heap.size≤wr.heap.size∧Below w.heap.size w wr) (fun i _=>st.length - (intOf i).toNat)
   case atStart=>exact ⟨0,ss1.length,A1,c1,ss1,Nat.zero_le _,hn1,rfl,rfl,hkn,hkd2,hS0,Nat.le_refl _,hbW⟩
   case round =>
    obtain ⟨k,N,A',c',sk,hk,hN,rfl,HF,hblk,hkd3,hSk,hzw,hb⟩:=hrel
    obtain ⟨hx0,hx1,hx2,hxl⟩:=Za8 hblk
    obtain ⟨hd0,hd1,hd2,hd3,hd4,hd5,hd6,hdl⟩:=Zbh hkd3
    by_cases hlt:k<st.length
    ·obtain ⟨hkl,ad,rfl,hab,hc0,hc1,hc2,hc3,hc4,hc5,hc6,hsb,hsa⟩:=(h3.below (hb.mono hB)).at_ hlt
     have hstep:=Zfv (d:=d1) (f:=f1) (ss:=sk) (l:=st) (k:=k) hkl
     have HST:=Lib.hid hstep
     clear hstep
     have hbo:=Zez true d1 f1 sk st[k].K st[k].F st[k].L st[k].T st[k].I st[k].b st[k].a 16777216 (by have:=hSk.len;omega) (by omega) hSk.sb hsb hsa
     have HBO:=Zk hbo
     clear hbo
     have hcon:=fun (W:World) (h:ZaJ W wr.heap.size A' N sk) (hz:wr.heap.size≤W.heap.size)=>ZkQ d1 f1 wr.heap.size A' N c' sk st[k].K st[k].F st[k].L st[k].T st[k].I st[k].b st[k].a W h hz hsb hsa
     have HCON:=Zk hcon
     clear hcon hsb hsa
     generalize er:(Zab true d1 f1 sk st[k].K st[k].F st[k].L st[k].T st[k].I st[k].b st[k].a).1=sr at *
     generalize eb:(Zab true d1 f1 sk st[k].K st[k].F st[k].L st[k].T st[k].I st[k].b st[k].a).2=br at *
     clear er eb
     cases hbr:br
     ·subst hbr
      have HP:=Lib.hid (Ze HP3 (by rw [← HF.out,HST.out];simp))
      go_wp2_with (first|(go_at_call 134;refine (Ze HCON _ (hSk.alloc (Nat.le_refl _) _) (by simp)).mono ?_;rintro e w7 ⟨A7,c7,rfl,ho7,hb7⟩;have hk7:=Za (Zb hblk (.cells #[.int .i64 st[k].K,.int .i64 st[k].F,.int .i64 st[k].L,.int .i64 st[k].T,.int .i64 st[k].I,.string st[k].b,.string st[k].a] 167)) hb7;have hd7:=Za (Zb hkd3 (.cells #[.int .i64 st[k].K,.int .i64 st[k].F,.int .i64 st[k].L,.int .i64 st[k].T,.int .i64 st[k].I,.string st[k].b,.string st[k].a] 167)) hb7;have hz7:=hb7.size;(try simp at hz7);obtain ⟨hv0,hv1,hv2,hvl⟩:=Za8 hk7;have hfv0:=(Zc hk7 0).2;have hfv1:=(Zc hk7 1).2;have hfv2:=(Zc hk7 2).2))
      go_ret
      exact ⟨Zo HP.out.symm,bel⟩
     ·subst hbr
      have HF2:Hid (ZaL d1 f1 (st.drop (k+1)) sr=ZaL d1 f1 st ss1):=by unfold Hid;rw [← HF.out,HST.out];simp
      go_wp2_with (first|(go_at_call 134;refine (Ze HCON _ (hSk.alloc (Nat.le_refl _) _) (by simp)).mono ?_;rintro e w7 ⟨A7,c7,rfl,ho7,hb7⟩;have hk7:=Za (Zb hblk (.cells #[.int .i64 st[k].K,.int .i64 st[k].F,.int .i64 st[k].L,.int .i64 st[k].T,.int .i64 st[k].I,.string st[k].b,.string st[k].a] 167)) hb7;have hd7:=Za (Zb hkd3 (.cells #[.int .i64 st[k].K,.int .i64 st[k].F,.int .i64 st[k].L,.int .i64 st[k].T,.int .i64 st[k].I,.string st[k].b,.string st[k].a] 167)) hb7;have hz7:=hb7.size;(try simp at hz7);obtain ⟨hv0,hv1,hv2,hvl⟩:=Za8 hk7;have hfv0:=(Zc hk7 0).2;have hfv1:=(Zc hk7 1).2;have hfv2:=(Zc hk7 2).2))
      have hS7:=Zcc ho7 (Ze HBO).1 (Ze HBO).2
      have hb7w:Below w.heap.size w w7:=bel
      have hSf:∀ (u v x:Value) (o:Obj),ZaJ (((((w7.setCell ⟨w1.heap.size,0,none⟩ u).setCell ⟨w1.heap.size,1,none⟩ v).setCell ⟨w1.heap.size,2,none⟩ x)).alloc o) ((((((w7.setCell ⟨w1.heap.size,0,none⟩ u).setCell ⟨w1.heap.size,1,none⟩ v).setCell ⟨w1.heap.size,2,none⟩ x)).alloc o)).heap.size A7 sr.length sr:=fun u v x o=>Zcc ((Zf4 ho7 hk7 (by decide) u v x).alloc o) (Ze HBO).1 (Ze HBO).2
      have HSF:=Zk hSf
      clear hSf
      go_roundw
      case rel=>exact ⟨k+1,sr.length,A7,c7,sr,by omega,(Ze HBO).1,by go_num,HF2,Zb (Zep hk7 _ _ _) _,Zb (Zh6 hd7 (by omega) _ _ _) _,Ze HSF _ _ _ _,by simp [World.setCell];omega,bel⟩
      case measure=>simp [intOf];omega
    ·have hke:k=st.length:=by omega
     have hd:st.drop k=[]:=List.drop_eq_nil_of_le (by omega)
     have hfin:ZaL d1 f1 st ss1=some sk:=by rw [← HF.out,hd];rfl
     have HP:=Lib.hid (Ze HP4 _ hfin)
     clear hd hfin
     have hT2:=(h2.below (hb.mono hB)).more (by omega:B≤wr.heap.size)
     have hcon:=Zlc d1 f1 d2 f2 wr.heap.size A' A2 N c' ss2.length c2 sk ss2
     have HCON:=Zk hcon
     clear hcon
     subst hke
     go_wp2_with (first|(go_at_call 135;refine (Ze HCON _ hSk hT2 (Nat.le_refl _)).mono ?_;rintro e w9 ⟨rfl,hb9⟩))
     go_ret
     exact ⟨Zo HP.out.symm,hb.trans (hb9.mono (by omega))⟩
  ·have HP:=Lib.hid (hp2 h40)
   clear hp1 hp2 hp3 hp4
   go_enter Tryz.func82,Tryz.ntmps82
   go_wp2_with (first|(go_at_call 70;refine (Zb0 _ _ _ _ _ ss1 _ ((h1.alloc hB (.cells #[.int .i64 d1,.int .i64 f1,.slice A1 ss1.length c1,.int .i64 d2,.int .i64 f2,.slice A2 ss2.length c2,.slice A3 st.length c3] 29)).more (by simp;omega))).mono ?_;rw [hck];rintro e w1 ⟨rfl,hb1⟩;obtain ⟨hcb1,hfb1⟩:=Zw hb1;obtain ⟨qaa,qba⟩:=zs1 (show w.heap.size<w1.heap.size by have hzz:=hb1.size;(try simp at hzz);omega)))
   go_ret
   exact ⟨Zo HP.out.symm,bel⟩
set_option maxHeartbeats 6000000 in
theorem Zc4 (D:Zd) (B:Nat) (A1 A2 A3:Option Addr) (c1 c2 c3:Nat) (w:World) (hS:ZbY w B A1 A2 A3 D) (hB:B≤w.heap.size) :
  Calls Tryz.prog 92 #[.agg (Zc2 D A1 c1 A2 c2 A3 c3)] w fun e w'=>e=.returned (.bool (ZaG D))∧Below w.heap.size w w':=by
 obtain ⟨d1,f1,ss1,d2,f2,ss2,st⟩:=D
 obtain ⟨h1,h2,h3⟩:=hS
 simp only at h1 h2 h3
 have hp1:=Zg9 (D:=⟨d1,f1,ss1,d2,f2,ss2,st⟩)
 have hp2:=ZeY (D:=⟨d1,f1,ss1,d2,f2,ss2,st⟩)
 have hp3:=Zgc (D:=⟨d1,f1,ss1,d2,f2,ss2,st⟩)
 have hp4:=fun ss=>Zgo (D:=⟨d1,f1,ss1,d2,f2,ss2,st⟩) (ss:=ss)
 simp only at hp1 hp2 hp3 hp4
 generalize hr:ZaG ⟨d1,f1,ss1,d2,f2,ss2,st⟩=r at *
 clear hr
 unfold Zc2
 simp only
 have hn1:=h1.nb
 have hn2:=h2.nb
 have hn3:=h3.nb
 cases hck:Zac d1 f1 ss1
 ·have HP:=Lib.hid (hp1 hck)
  clear hp1 hp2 hp3 hp4
  go_enter Tryz.func92,Tryz.ntmps92
  go_wp2_with (first|(go_at_call 97;refine (Zbp _ _ _ _ _ ss1 _ ((h1.alloc hB (.cells #[.int .i64 d1,.int .i64 f1,.slice A1 ss1.length c1,.int .i64 d2,.int .i64 f2,.slice A2 ss2.length c2,.slice A3 st.length c3] 29)).more (by simp;omega))).mono ?_;rw [hck];rintro e w1 ⟨rfl,hb1⟩;obtain ⟨hcb1,hfb1⟩:=Zw hb1;obtain ⟨qaa,qba⟩:=zs1 (show w.heap.size<w1.heap.size by have hzz:=hb1.size;(try simp at hzz);omega)))
  go_ret
  exact ⟨Zo HP.out.symm,bel⟩
 ·by_cases h40:st.length≤40
  ·have HP3:=Zk hp3
   have HP4:=Zk (hp4 · hck h40)
   clear hp1 hp2 hp3 hp4
   go_enter Tryz.func92,Tryz.ntmps92
   go_wp2_with (first|(go_at_call 97;refine (Zbp _ _ _ _ _ ss1 _ ((h1.alloc hB (.cells #[.int .i64 d1,.int .i64 f1,.slice A1 ss1.length c1,.int .i64 d2,.int .i64 f2,.slice A2 ss2.length c2,.slice A3 st.length c3] 29)).more (by simp;omega))).mono ?_;rw [hck];rintro e w1 ⟨rfl,hb1⟩;obtain ⟨hcb1,hfb1⟩:=Zw hb1;obtain ⟨qaa,qba⟩:=zs1 (show w.heap.size<w1.heap.size by have hzz:=hb1.size;(try simp at hzz);omega)))
   have hkd:=Za (Zy w (.cells #[.int .i64 d1,.int .i64 f1,.slice A1 ss1.length c1,.int .i64 d2,.int .i64 f2,.slice A2 ss2.length c2,.slice A3 st.length c3] 29)) hb1
   have hw1s:=qaa
   have hbW:Below w.heap.size w (w1.alloc (.cells #[.int .i64 d1,.int .i64 f1,.slice A1 ss1.length c1] 26)):=bel
   have hkn:=Zy w1 (.cells #[.int .i64 d1,.int .i64 f1,.slice A1 ss1.length c1] 26)
   have hkd2:=Zb hkd (.cells #[.int .i64 d1,.int .i64 f1,.slice A1 ss1.length c1] 26)
   have hS0:ZaJ (w1.alloc (.cells #[.int .i64 d1,.int .i64 f1,.slice A1 ss1.length c1] 26)) (w1.alloc (.cells #[.int .i64 d1,.int .i64 f1,.slice A1 ss1.length c1] 26)).heap.size A1 ss1.length ss1:=(((h1.alloc hB (.cells #[.int .i64 d1,.int .i64 f1,.slice A1 ss1.length c1,.int .i64 d2,.int .i64 f2,.slice A2 ss2.length c2,.slice A3 st.length c3] 29)).below (hb1.mono (by simp;omega))).alloc (by omega) (.cells #[.int .i64 d1,.int .i64 f1,.slice A1 ss1.length c1] 26)).more (by simp;omega)
   have hg4:w1.heap.size<(w1.alloc (.cells #[.int .i64 d1,.int .i64 f1,.slice A1 ss1.length c1] 26)).heap.size:=by simp
   generalize w1.alloc (.cells #[.int .i64 d1,.int .i64 f1,.slice A1 ss1.length c1] 26)=w5 at *
   have hwB:w.heap.size≤w5.heap.size:=hbW.size
   go_loopw [4] (fun i wr=>∃ (k N:Nat) (A':Option Addr) (c':Nat) (sk:List ByteArray),k≤st.length∧N≤16777216∧i=.int .i64 k∧Hid (ZaL d1 f1 (st.drop k) sk=ZaL d1 f1 st ss1) ∧
     wr.heap[w1.heap.size]?=some (.cells #[.int .i64 d1,.int .i64 f1,.slice A' N c'] 26 (0,0))∧wr.heap[w.heap.size]?=some (.cells #[.int .i64 d1,.int .i64 f1,.slice A1 ss1.length c1,.int .i64 d2,.int .i64 f2,.slice A2 ss2.length c2,.slice A3 st.length c3] 29)∧ZaJ wr wr.heap.size A' N sk∧w5.heap.size≤wr.heap.size∧Below w.heap.size w wr) (fun i _=>st.length - (intOf i).toNat)
   case atStart=>exact ⟨0,ss1.length,A1,c1,ss1,Nat.zero_le _,hn1,rfl,rfl,hkn,hkd2,hS0,Nat.le_refl _,hbW⟩
   case round =>
    obtain ⟨k,N,A',c',sk,hk,hN,rfl,HF,hblk,hkd3,hSk,hzw,hb⟩:=hrel
    obtain ⟨hx0,hx1,hx2,hxl⟩:=Za8 hblk
    obtain ⟨hd0,hd1,hd2,hd3,hd4,hd5,hd6,hdl⟩:=Zbh hkd3
    by_cases hlt:k<st.length
    ·obtain ⟨hkl,ad,rfl,hab,hc0,hc1,hc2,hc3,hc4,hc5,hc6,hsb,hsa⟩:=(h3.below (hb.mono hB)).at_ hlt
     have hstep:=Zfv (d:=d1) (f:=f1) (ss:=sk) (l:=st) (k:=k) hkl
     have HST:=Lib.hid hstep
     clear hstep
     have hbo:=Zez true d1 f1 sk st[k].K st[k].F st[k].L st[k].T st[k].I st[k].b st[k].a 16777216 (by have:=hSk.len;omega) (by omega) hSk.sb hsb hsa
     have HBO:=Zk hbo
     clear hbo
     have hcon:=fun (W:World) (h:ZaJ W wr.heap.size A' N sk) (hz:wr.heap.size≤W.heap.size)=>ZkN d1 f1 wr.heap.size A' N c' sk st[k].K st[k].F st[k].L st[k].T st[k].I st[k].b st[k].a W h hz hsb hsa
     have HCON:=Zk hcon
     clear hcon hsb hsa
     generalize er:(Zab true d1 f1 sk st[k].K st[k].F st[k].L st[k].T st[k].I st[k].b st[k].a).1=sr at *
     generalize eb:(Zab true d1 f1 sk st[k].K st[k].F st[k].L st[k].T st[k].I st[k].b st[k].a).2=br at *
     clear er eb
     cases hbr:br
     ·subst hbr
      have HP:=Lib.hid (Ze HP3 (by rw [← HF.out,HST.out];simp))
      go_upto_region 7 with fail
      go_cut [5,6] (fun s5 s6 wx=>∃ (g9:Nat) (A7:Option Addr) (c7:Nat),s5=.pointer (some ⟨g9,0,none⟩)∧s6=.bool false∧wx.heap[g9]?=some (.cells #[.int .i64 d1,.int .i64 f1,.slice A7 sr.length c7] 26 (0,0))∧wx.ownsRow wr.heap.size 9 1 (.slice A7 sr.length c7) sr.length (sr.map Value.string)∧wr.heap.size≤g9∧Below wr.heap.size wr wx)
      case first =>
       have hq1:(ad.add (k * 7)).block<wr.heap.size:=by rw [Zn];omega
       go_region_held3 (fun W=>(∀ p:Addr,p.block<wr.heap.size→W.cell? p=(wr).cell? p)∧(∀ p:Addr,p.block<wr.heap.size→W.frozen? p=(wr).frozen? p)∧Below (wr.heap.size) (wr) W) (exact Zam bel) ((go_at_call 147;have hq:=(‹_∧_∧Below _ _ _›).2.2;refine (Ze HCON _ (hSk.below hq) hq.size).mono ?_;rintro e w7 ⟨A7,c7,rfl,ho7r,hb7⟩;(have ho7:=Zbr (base':=wr.heap.size) ho7r (by first|exact hq.size|exact Nat.le_refl _));clear ho7r;have hqs:=hq.size;have hbs:=hb7.size;(try simp at hqs);(try simp at hbs);obtain ⟨hcb7,hfb7⟩:=Zw hb7;(try (have hzl:wr.heap.size<w7.heap.size:=(by omega)))))
       all_goals (go_wp2_with fail)
       all_goals (go_meet)
       all_goals (
        refine ⟨_,A7,c7,rfl,rfl,?_,?_,?_,?_⟩
        first
         |exact Zy _ _
         |exact Zep (by first|exact Za (Zy _ _) hb7|exact Za (ZaK (Zy _ _)) hb7) _ _ _
        first
         |exact ho7.alloc _
         |exact Zf4 ho7 (by first|exact Za (Zy _ _) hb7|exact Za (ZaK (Zy _ _)) hb7) (by decide) _ _ _
        first
         |exact Nat.le_refl _
         |omega
        exact bel)
      obtain ⟨g9,A7,c7,rfl,rfl,hk9,ho9,hg9,hb9⟩:=hcut
      obtain ⟨w7,hwc⟩:∃ W,W=wc:=⟨_,rfl⟩
      subst hwc
      have hk7:=Za hblk hb9
      have hd7:=Za hkd3 hb9
      have hz7:=hb9.size
      obtain ⟨hv0,hv1,hv2,hvl⟩:=Za8 hk7
      have hfv0:=(Zc hk7 0).2
      have hfv1:=(Zc hk7 1).2
      have hfv2:=(Zc hk7 2).2
      obtain ⟨hg0,hg1,hg2,hgl⟩:=Za8 hk9
      have hb7w:Below w.heap.size w w7:=hb.trans (hb9.mono (by omega))
      clear hx0 hx1 hx2 hxl hd0 hd1 hd2 hd3 hd4 hd5 hd6 hdl
      go_wp2
      go_ret
      exact ⟨Zo HP.out.symm,hb7w⟩
     ·subst hbr
      have HF2:Hid (ZaL d1 f1 (st.drop (k+1)) sr=ZaL d1 f1 st ss1):=by unfold Hid;rw [← HF.out,HST.out];simp
      go_upto_region 7 with fail
      go_cut [5,6] (fun s5 s6 wx=>∃ (g9:Nat) (A7:Option Addr) (c7:Nat),s5=.pointer (some ⟨g9,0,none⟩)∧s6=.bool true∧wx.heap[g9]?=some (.cells #[.int .i64 d1,.int .i64 f1,.slice A7 sr.length c7] 26 (0,0))∧wx.ownsRow wr.heap.size 9 1 (.slice A7 sr.length c7) sr.length (sr.map Value.string)∧wr.heap.size≤g9∧Below wr.heap.size wr wx)
      case first =>
       have hq1:(ad.add (k * 7)).block<wr.heap.size:=by rw [Zn];omega
       go_region_held3 (fun W=>(∀ p:Addr,p.block<wr.heap.size→W.cell? p=(wr).cell? p)∧(∀ p:Addr,p.block<wr.heap.size→W.frozen? p=(wr).frozen? p)∧Below (wr.heap.size) (wr) W) (exact Zam bel) ((go_at_call 147;have hq:=(‹_∧_∧Below _ _ _›).2.2;refine (Ze HCON _ (hSk.below hq) hq.size).mono ?_;rintro e w7 ⟨A7,c7,rfl,ho7r,hb7⟩;(have ho7:=Zbr (base':=wr.heap.size) ho7r (by first|exact hq.size|exact Nat.le_refl _));clear ho7r;have hqs:=hq.size;have hbs:=hb7.size;(try simp at hqs);(try simp at hbs);obtain ⟨hcb7,hfb7⟩:=Zw hb7;(try (have hzl:wr.heap.size<w7.heap.size:=(by omega)))))
       all_goals (go_wp2_with fail)
       all_goals (go_meet)
       all_goals (
        refine ⟨_,A7,c7,rfl,rfl,?_,?_,?_,?_⟩
        first
         |exact Zy _ _
         |exact Zep (by first|exact Za (Zy _ _) hb7|exact Za (ZaK (Zy _ _)) hb7) _ _ _
        first
         |exact ho7.alloc _
         |exact Zf4 ho7 (by first|exact Za (Zy _ _) hb7|exact Za (ZaK (Zy _ _)) hb7) (by decide) _ _ _
        first
         |exact Nat.le_refl _
         |omega
        exact bel)
      obtain ⟨g9,A7,c7,rfl,rfl,hk9,ho9,hg9,hb9⟩:=hcut
      obtain ⟨w7,hwc⟩:∃ W,W=wc:=⟨_,rfl⟩
      subst hwc
      have hk7:=Za hblk hb9
      have hd7:=Za hkd3 hb9
      have hz7:=hb9.size
      obtain ⟨hv0,hv1,hv2,hvl⟩:=Za8 hk7
      have hfv0:=(Zc hk7 0).2
      have hfv1:=(Zc hk7 1).2
      have hfv2:=(Zc hk7 2).2
      obtain ⟨hg0,hg1,hg2,hgl⟩:=Za8 hk9
      have hb7w:Below w.heap.size w w7:=hb.trans (hb9.mono (by omega))
      clear hx0 hx1 hx2 hxl hd0 hd1 hd2 hd3 hd4 hd5 hd6 hdl
      go_wp2
      have hSf:∀ (u v x:Value),ZaJ (((w7.setCell ⟨w1.heap.size,0,none⟩ u).setCell ⟨w1.heap.size,1,none⟩ v).setCell ⟨w1.heap.size,2,none⟩ x) (((w7.setCell ⟨w1.heap.size,0,none⟩ u).setCell ⟨w1.heap.size,1,none⟩ v).setCell ⟨w1.heap.size,2,none⟩ x).heap.size A7 sr.length sr:=fun u v x=>Zcc (Zf4 ho9 hk7 (by decide) u v x) (Ze HBO).1 (Ze HBO).2
      have HSF:=Zk hSf
      clear hSf
      go_roundw
      case rel=>exact ⟨k+1,sr.length,A7,c7,sr,by omega,(Ze HBO).1,by go_num,HF2,Zep hk7 _ _ _,Zh6 hd7 (by omega) _ _ _,Ze HSF _ _ _,by simp [World.setCell];omega,bel⟩
      case measure=>simp [intOf];omega
    ·have hke:k=st.length:=by omega
     have hd:st.drop k=[]:=List.drop_eq_nil_of_le (by omega)
     have hfin:ZaL d1 f1 st ss1=some sk:=by rw [← HF.out,hd];rfl
     have HP:=Lib.hid (Ze HP4 _ hfin)
     clear hd hfin
     have hT2:=(h2.below (hb.mono hB)).more (by omega:B≤wr.heap.size)
     have hcon:=ZlU d1 f1 d2 f2 wr.heap.size A' A2 N c' ss2.length c2 sk ss2
     have HCON:=Zk hcon
     clear hcon
     subst hke
     go_wp2_with (first|(go_at_call 29;refine (Ze HCON _ hSk hT2 (Nat.le_refl _)).mono ?_;rintro e w9 ⟨rfl,hb9⟩))
     go_ret
     exact ⟨Zo HP.out.symm,hb.trans (hb9.mono (by omega))⟩
  ·have HP:=Lib.hid (hp2 h40)
   clear hp1 hp2 hp3 hp4
   go_enter Tryz.func92,Tryz.ntmps92
   go_wp2_with (first|(go_at_call 97;refine (Zbp _ _ _ _ _ ss1 _ ((h1.alloc hB (.cells #[.int .i64 d1,.int .i64 f1,.slice A1 ss1.length c1,.int .i64 d2,.int .i64 f2,.slice A2 ss2.length c2,.slice A3 st.length c3] 29)).more (by simp;omega))).mono ?_;rw [hck];rintro e w1 ⟨rfl,hb1⟩;obtain ⟨hcb1,hfb1⟩:=Zw hb1;obtain ⟨qaa,qba⟩:=zs1 (show w.heap.size<w1.heap.size by have hzz:=hb1.size;(try simp at hzz);omega)))
   go_ret
   exact ⟨Zo HP.out.symm,bel⟩
theorem ZjY {l:List UInt8} (h:cnt 100 l+cnt 102 l=l.length):∀ x∈l,x=100∨x=102:=by
 induction l with
 |nil=>intro x hx;cases hx
 |cons a t ih =>
  have ht:=Zfn t
  have e1:cnt 100 (a :: t)=cnt 100 t+(if a=100 then 1 else 0):=by unfold cnt;rw [List.count_cons];by_cases q:a=100 <;> simp [q]
  have e2:cnt 102 (a :: t)=cnt 102 t+(if a=102 then 1 else 0):=by unfold cnt;rw [List.count_cons];by_cases q:a=102 <;> simp [q]
  rw [e1,e2,List.length_cons] at h
  have ha:a=100∨a=102:=by
   by_cases q1:a=100
   ·exact .inl q1
   ·by_cases q2:a=102
    ·exact .inr q2
    ·rw [if_neg q1,if_neg q2] at h;omega
  have hne:¬((100:UInt8)=102):=by decide
  intro x hx
  rcases List.mem_cons.1 hx with rfl|hx
  ·exact ha
  ·refine ih ?_ x hx
   rcases ha with rfl|rfl
   ·rw [if_pos rfl,if_neg hne] at h;omega
   ·rw [if_neg (Ne.symm hne),if_pos rfl] at h;omega
theorem Zgf (c:UInt8) (p q:List UInt8) (a b:UInt8):cnt c (p++[b,a]++q)=cnt c (p++[a,b]++q):=by
 unfold cnt
 simp only [List.count_append,List.count_cons,List.count_nil]
 omega
theorem ZnT {l:List UInt8} {K:Nat} (h:K+1<l.length):l=l.take K++[l[K],l[K+1]]++l.drop (K+2):=by
 have h1:l.drop K=l[K] :: l.drop (K+1):=List.drop_eq_getElem_cons (by omega)
 have h2:l.drop (K+1)=l[K+1] :: l.drop (K+2):=List.drop_eq_getElem_cons (by omega)
 conv=>lhs;rw [← List.take_append_drop K l,h1,h2]
 simp
theorem Zhj (p q:List UInt8) (a b:UInt8) (K:Nat) (hp:p.length=K):Zh5 (p++[a,b]++q) (K+1)=p++[b,a]++q:=by
 subst hp
 unfold Zh5
 have h1:List.drop (p.length+1) p=[]:=List.drop_eq_nil_of_le (by omega)
 have h2:List.drop (p.length+1+1) p=[]:=List.drop_eq_nil_of_le (by omega)
 have h3:p.length+1+1 - p.length=2:=by omega
 simp [List.drop_append,h1,h2,h3]
theorem ZgS {c:UInt8} {s:ByteArray} {k:Int} (h:Zaj c s k=true):∃ (p q:List UInt8) (a b:UInt8),s.data.toList=p++[a,b]++q∧k=((p.length+1:Nat):Int)∧(ZbM s k).data.toList=p++[b,a]++q∧a=c∧b≠a:=by
 obtain ⟨L,K,rfl,hKL,hL⟩:=ZcH h
 subst hKL
 have hl:s.data.toList.length=s.size:=by simp
 have hsp:=ZnT (l:=s.data.toList) (K:=K) (by omega)
 have hpl:(s.data.toList.take K).length=K:=by rw [List.length_take];omega
 refine ⟨s.data.toList.take K,s.data.toList.drop (K+2),s.data.toList[K]'(by omega),s.data.toList[K+1]'(by omega),hsp,by rw [hpl],?_,?_,?_⟩
 ·unfold ZbM
  simp only [Int.toNat_natCast]
  have:=Zhj (s.data.toList.take K) (s.data.toList.drop (K+2)) (s.data.toList[K]'(by omega)) (s.data.toList[K+1]'(by omega)) K hpl
  rw [← hsp] at this
  exact this
 ·unfold Zaj at h
  simp only [Bool.and_eq_true,beq_iff_eq] at h
  have h2:=h.2
  rw [show ((K+1:Nat):Int) - 1=(K:Int) by omega,Zdv s K (by omega)] at h2
  exact h2
 ·unfold Zaj Zbs at h
  simp only [Bool.and_eq_true] at h
  have h2:=h.1.2.2
  rw [show ((K+1:Nat):Int) - 1=(K:Int) by omega,Zdv s K (by omega),Zdv s (K+1) (by omega)] at h2
  have h3:s[K]≠s[K+1]:=by simpa using h2
  exact fun e=>h3 e.symm
theorem Znz {l:List UInt8} (h:Zar l=true):cnt 100 l+cnt 102 l=l.length:=by
 unfold Zar at h
 simp only [Bool.and_eq_true,beq_iff_eq] at h
 exact h.1
theorem Zgs (p q:List UInt8) (a b:UInt8):Zar (p++[b,a]++q)=Zar (p++[a,b]++q):=by
 unfold Zar
 rw [Zgf 100,Zgf 102]
 simp
theorem Zj1 {c:UInt8} {s:ByteArray} {k:Int} (h:Zaj c s k=true) (d f:Int):Zb2 d f (ZbM s k)=Zb2 d f s:=by
 obtain ⟨p,q,a,b,h1,_,h2,_⟩:=ZgS h
 unfold Zb2 ZcF Zck
 rw [h1,h2,Zgs,Zgf 100,Zgf 102]
def ZdO (c:UInt8):UInt8:=if c=100 then 102 else 100
theorem ZkJ {c:UInt8} (hc:c=100∨c=102) {s:ByteArray} {k:Int} (h:Zaj c s k=true):Zaj (ZdO c) (ZbM s k) k=true:=by
 obtain ⟨p,q,a,b,h1,hk,h2,ha,hb⟩:=ZgS h
 have hs:Zar s.data.toList=true:=by
  unfold Zaj at h
  simp only [Bool.and_eq_true] at h
  exact h.1.1
 have hl:=ZjY (Znz hs)
 have hbl:b=100∨b=102:=hl b (by rw [h1];simp)
 have hbo:b=ZdO c:=by
  unfold ZdO
  rcases hc with rfl|rfl
  ·rw [if_pos rfl]
   rcases hbl with h3|h3
   ·exact absurd (h3.trans ha.symm) hb
   ·exact h3
  ·rw [if_neg (by decide)]
   rcases hbl with h3|h3
   ·exact h3
   ·exact absurd (h3.trans ha.symm) hb
 have hsz:(ZbM s k).size=p.length+(2+q.length):=by
  have:(ZbM s k).data.toList.length=(ZbM s k).size:=by simp
  rw [← this,h2];simp;omega
 have hc1:chr (ZbM s k) (k - 1)=b:=by
  unfold chr
  rw [h2,hk,show (((p.length+1:Nat):Int) - 1).toNat=p.length by omega]
  simp
 have hc2:chr (ZbM s k) k=a:=by
  unfold chr
  rw [h2,hk,Int.toNat_natCast]
  simp
 unfold Zaj Zbs
 rw [h2,Zgs,← h1,hs,hc1,hc2,hsz]
 have hin:inB k 1 (((p.length+(2+q.length):Nat):Int) - 1)=true:=Za5.2 ⟨by omega,by omega⟩
 rw [hin]
 have hb2:¬ZdO c=a:=fun e=>hb (hbo.trans e)
 simp [hbo,hb2]
theorem ZfZ {c:UInt8} {d f at_:Int} {ss:List ByteArray} {F m:Nat} (h:Zac d f ss=true) (ha:ZcO c at_ ss F m=true):Zac d f (ZbW at_ ss F m)=true:=by
 unfold Zac at *
 simp only [Bool.and_eq_true] at *
 rw [Zcj]
 refine ⟨h.1,h.2.1,?_⟩
 rw [List.all_eq_true] at *
 intro x hx
 obtain ⟨i,hi,rfl⟩:=List.getElem_of_mem hx
 have hi2:i<ss.length:=by rw [Zcj] at hi;exact hi
 simp only [ZbW,List.getElem_mapIdx]
 split
 ·rename_i hr
  have hcr:Zaj c ss[i] at_=true:=by
   unfold ZcO at ha
   rw [List.all_eq_true] at ha
   refine ha _ ?_
   rw [List.mem_take_iff_getElem]
   exact ⟨i - F,by rw [List.length_drop];omega,by simp [show F+(i - F)=i by omega]⟩
  rw [Zj1 hcr]
  exact h.2.2 _ (List.getElem_mem hi2)
 ·exact h.2.2 _ (List.getElem_mem hi2)
theorem ZlW {c:UInt8} (hc:c=100∨c=102) {at_:Int} {ss:List ByteArray} {F m:Nat} (ha:ZcO c at_ ss F m=true):ZcO (ZdO c) at_ (ZbW at_ ss F m) F m=true:=by
 unfold ZcO at *
 rw [List.all_eq_true] at *
 intro x hx
 rw [List.mem_take_iff_getElem] at hx
 obtain ⟨i,hi,rfl⟩:=hx
 rw [List.length_drop,Zcj] at hi
 have hcr:Zaj c (ss[F+i]'(by omega)) at_=true:=by
  refine ha _ ?_
  rw [List.mem_take_iff_getElem]
  exact ⟨i,by rw [List.length_drop];omega,by simp⟩
 simp only [List.getElem_drop,ZbW,List.getElem_mapIdx]
 rw [if_pos (by omega)]
 exact ZkJ hc hcr
theorem ZeQ {c:UInt8} (hc:c=100∨c=102) {d f:Int} {ss sn:List ByteArray} {F L T:Int} (h:Zax c d f ss F L T=(sn,true)):(Zax (ZdO c) d f sn F L T).2=true:=by
 unfold Zax at h
 split at h
 ·rename_i h1
  injection h with h2 _
  subst h2
  have h3:=h1.1
  unfold Zcb at h3
  simp only [Bool.and_eq_true] at h3
  have hb:Zcb d f (ZbW T ss F.toNat (L.toNat+1 - F.toNat)) (ZbW T ss F.toNat (L.toNat+1 - F.toNat)).length F L=true:=by
   unfold Zcb
   rw [ZfZ h3.1.1 h1.2,Zcj,h3.1.2]
   simpa using h3.2
  unfold Zax
  rw [if_pos ⟨hb,ZlW hc h1.2⟩]
 ·injection h with _ h2;cases h2
theorem ZmQ {d f:Int} {ss sn:List ByteArray} {k:Int} {b a:ByteArray} (h:ZaR d f ss k b a=(sn,true)):(ZaR d f sn k a b).2=true:=by
 unfold ZaR at h
 split at h
 ·rename_i h1
  simp only [Bool.and_eq_true,decide_eq_true_eq] at h1
  unfold ZbX at h
  split at h
  ·rename_i h2
   simp only [Bool.and_eq_true] at h2
   injection h with h3 _
   subst h3
   have hk:=Za5.1 h1.1.2
   have hkn:k.toNat<ss.length:=by omega
   have hb:ss[k.toNat]=b:=by
    have:=h1.2
    simpa [List.getD,List.getElem?_eq_getElem hkn] using this
   have hback:(ss.set k.toNat a).set k.toNat b=ss:=by
    rw [List.set_set,← hb];exact List.set_getElem_self hkn
   unfold ZaR ZbX
   rw [hback,h2.2,h1.1.1,List.length_set,h1.1.2]
   simp [List.getD,hkn]
  ·injection h with _ h2;cases h2
 ·injection h with _ h2;cases h2
theorem ZmU {d f:Int} {ss sn:List ByteArray} {K F L T I:Int} {b a:ByteArray} (h:Zab true d f ss K F L T I b a=(sn,true)):(Zab false d f sn K F L T I b a).2=true:=by
 unfold Zab at *
 split at h
 ·injection h with _ h2;cases h2
 ·rename_i hp
  rw [if_neg hp]
  split at h
  ·rename_i hk
   rw [if_pos hk]
   have:=ZeQ (c:=100) (.inl rfl) (by simpa using h)
   simpa [ZdO] using this
  ·rename_i hk
   rw [if_neg hk]
   split at h
   ·rename_i hk2
    rw [if_pos hk2]
    have:=ZeQ (c:=102) (.inr rfl) (by simpa using h)
    simpa [ZdO] using this
   ·rename_i hk2
    rw [if_neg hk2]
    exact ZmQ (by simpa using h)
theorem ZiD {d f:Int} (l:List Zv) (s:Zv):∀ (ss sn:List ByteArray),ZaL d f (l++[s]) ss=some sn→∃ sp,Zab true d f sp s.K s.F s.L s.T s.I s.b s.a=(sn,true):=by
 induction l with
 |nil =>
  intro ss sn h
  simp only [List.nil_append,ZaL] at h
  split at h
  ·rename_i h2
   injection h with h
   exact ⟨ss,Prod.ext h h2⟩
  ·cases h
 |cons x l ih =>
  intro ss sn h
  simp only [List.cons_append,ZaL] at h
  split at h
  ·exact ih _ _ h
  ·cases h
theorem Zmm {D:Zd} {l:List Zv} {s:Zv} (hl:D.st=l++[s]) (h:ZaG D=true):(Zab false D.d2 D.f2 D.ss2 s.K s.F s.L s.T s.I s.b s.a).2=true:=by
 unfold ZaG at h
 simp only [Bool.and_eq_true] at h
 have h2:=h.2
 split at h2
 ·rename_i sn hr
  rw [hl] at hr
  obtain ⟨sp,hs⟩:=ZiD _ _ _ _ hr
  unfold ZcS at h2
  simp only [Bool.and_eq_true,beq_iff_eq] at h2
  have h3:sn=D.ss2:=by have:=h2.2.2;unfold Zdu at this;simpa using this
  rw [← h2.1,← h2.2.1,← h3]
  exact ZmU hs
 ·cases h2
theorem Zft (l:List Zv):∀ u∈l.flatMap ZaY,u.oneCell'=true:=by
 intro u hu
 obtain ⟨s,_,h⟩:=List.mem_flatMap.1 hu
 simp [ZaY] at h
 rcases h with rfl|rfl|rfl|rfl|rfl|rfl|rfl <;> rfl
theorem Zk3 {base n:Nat} {v:Value} {l:List Zv} {w w':World} (hl:l.length=n) (ho:w'.ownsRow base 167 7 v n (l.flatMap ZaY)) (hb:Below w.heap.size w w'):Zhy base l w (.returned v) w':=by
 subst hl
 obtain ⟨A,c,rfl⟩:=Zbg ho
 exact ⟨A,c,rfl,ho,hb⟩
theorem ZlJ (B:Nat) (A:Option Addr) (n c:Nat) (l:List Zv) (w:World) (hS:Zd2 w B A n l) (hB:B≤w.heap.size) :
  Calls Tryz.prog 137 #[.slice A n c] w (Zhy w.heap.size l w):=by
 have hn:=hS.nb
 have hl:=hS.len
 have hR:=hS.rd
 rcases A with _|ad
 ·have hn0:n=0:=by
   rcases Nat.eq_zero_or_pos n with h0|h0
   ·exact h0
   ·obtain ⟨_,ad,h,_⟩:=hS.at_ h0;cases h
  subst hn0
  have hs0:l=[]:=List.eq_nil_of_length_eq_zero hl
  subst hs0
  have hnil:=fun W=>Lib.run_eql_slice_nil (P:=Tryz.prog) W 27
  clear hl
  go_enter Tryz.func137,Tryz.ntmps137
  go_wp2
  go_ret
  exact ⟨none,0,rfl,World.ownsRow_nil w _ _ _,Below.refl _ _⟩
 ·have hnil:=fun W=>Lib.run_eql_slice_nil (P:=Tryz.prog) W 27
  obtain ⟨i0,hi0,hz0,hz1,hz2⟩:=info_parts ZcU
  have hown:(w.alloc (.cells #[] 167)).ownsRow w.heap.size 167 7 (.slice (some ⟨w.heap.size,0,none⟩) 0 0) 0 []:=World.ownsRow_made w #[] 0 (Nat.le_refl _) (by unfold maxLen;omega) rfl
  have hR1:=hR.alloc hB (.cells #[] 167)
  have hone:=Zft l
  have HL:=Lib.hid hl
  have HONE:=Zk hone
  clear hl hone
  go_enter Tryz.func137,Tryz.ntmps137
  go_wp2_with (at_builtin;refine Zay _ rfl (.tmp 5) (.tmp 6) _ rfl w.heap.size 167 i0 _ 7 72 Tryz.underlying27 hi0 hz0 hz1 hz2 rfl (by omega) (.slice (some ⟨w.heap.size,0,none⟩) 0 0) 0 [] rfl hown B (some ad) n c (l.flatMap ZaY) rfl hR1 (Ze HONE) ?_ ?_ ?_ n _ (by omega) (List.nil_append _) ?_;(unfold maxLen;omega);omega;(simp);intro A1 c1 w1 hown1 hb1)
  have hfr:=Zk3 (l:=l) (n:=n) HL.out hown1 (((Below.refl w.heap.size w).alloc (Nat.le_refl _) _).trans hb1)
  have HFR:=Zk hfr
  clear hfr hown1
  go_ret
  exact (Ze HFR)
def Zke (base:Nat) (d1 f1:Int) (ss1:List ByteArray) (d2 f2:Int) (ss2:List ByteArray) (st:List Zv) (w:World) (e:Ending) (w':World):Prop :=
 ∃ B1 e1 B2 e2 B3 e3,e=.returned (.agg #[.int .i64 d1,.int .i64 f1,.slice B1 ss1.length e1,.int .i64 d2,.int .i64 f2,.slice B2 ss2.length e2,.slice B3 st.length e3])∧Zih w' base B1 e1 B2 e2 B3 e3 ⟨d1,f1,ss1,d2,f2,ss2,st⟩∧Below w.heap.size w w'
set_option maxHeartbeats 3200000 in
theorem ZiI (d1 f1:Int) (ss1:List ByteArray) (d2 f2:Int) (ss2:List ByteArray) (st:List Zv) (B:Nat) (A1 A2 A3:Option Addr) (c1 c2 c3:Nat) (w:World) (hS:ZbY w B A1 A2 A3 ⟨d1,f1,ss1,d2,f2,ss2,st⟩) (hB:B≤w.heap.size) :
  Calls Tryz.prog 84 #[.agg #[.int .i64 d1,.int .i64 f1,.slice A1 ss1.length c1,.int .i64 d2,.int .i64 f2,.slice A2 ss2.length c2,.slice A3 st.length c3]] w (Zke w.heap.size d1 f1 ss1 d2 f2 ss2 st w):=by
 have h1:ZaJ w B A1 ss1.length ss1:=hS.s1
 have h2:ZaJ w B A2 ss2.length ss2:=hS.s2
 have h3:Zd2 w B A3 st.length st:=hS.st
 have hn1:=h1.nb
 have hn2:=h2.nb
 have hn3:=h3.nb
 go_enter Tryz.func84,Tryz.ntmps84
 go_wp2
 have hbW:Below w.heap.size w ((w.alloc (.cells #[.int .i64 d1,.int .i64 f1,.slice A1 ss1.length c1,.int .i64 d2,.int .i64 f2,.slice A2 ss2.length c2,.slice A3 st.length c3] 29)).alloc (.cells #[.int .i64 0,.int .i64 0,.slice none 0 0,.int .i64 0,.int .i64 0,.slice none 0 0,.slice none 0 0] 29)):=bel
 have hk1:=Zfj w (.cells #[.int .i64 d1,.int .i64 f1,.slice A1 ss1.length c1,.int .i64 d2,.int .i64 f2,.slice A2 ss2.length c2,.slice A3 st.length c3] 29) (.cells #[.int .i64 0,.int .i64 0,.slice none 0 0,.int .i64 0,.int .i64 0,.slice none 0 0,.slice none 0 0] 29)
 have hk2:=ZeC w (.cells #[.int .i64 d1,.int .i64 f1,.slice A1 ss1.length c1,.int .i64 d2,.int .i64 f2,.slice A2 ss2.length c2,.slice A3 st.length c3] 29) (.cells #[.int .i64 0,.int .i64 0,.slice none 0 0,.int .i64 0,.int .i64 0,.slice none 0 0,.slice none 0 0] 29)
 generalize ((w.alloc (.cells #[.int .i64 d1,.int .i64 f1,.slice A1 ss1.length c1,.int .i64 d2,.int .i64 f2,.slice A2 ss2.length c2,.slice A3 st.length c3] 29)).alloc (.cells #[.int .i64 0,.int .i64 0,.slice none 0 0,.int .i64 0,.int .i64 0,.slice none 0 0,.slice none 0 0] 29))=w0 at *
 have hzw:=hbW.size
 have hz0:=Zg hk1
 have hz1:=Zg hk2
 obtain ⟨hx0,hx1,hx2,hx3,hx4,hx5,hx6,hxl⟩:=Zbh hk1
 obtain ⟨hy0,hy1,hy2,hy3,hy4,hy5,hy6,hyl⟩:=Zbh hk2
 have g1:=h1.below (hbW.mono hB)
 have g2:=h2.below (hbW.mono hB)
 have g3:=h3.below (hbW.mono hB)
 have hB0:B≤w0.heap.size:=by omega
 have hB1:B≤w.heap.size+1:=by omega
 go_region_held3 (fun W=>(∀ b o,b<w.heap.size+1→W.cell? ⟨b,o,none⟩=(w0).cell? ⟨b,o,none⟩)∧(∀ b o,b<w.heap.size+1→W.frozen? ⟨b,o,none⟩=(w0).frozen? ⟨b,o,none⟩)∧Below (w.heap.size+1) (w0) W) (exact ZbA bel) (first|(go_at_call_of 122 (Value.agg #[.int .i64 d1,.int .i64 f1,.slice A1 ss1.length c1]);have hq:=(‹_∧_∧Below _ _ _›).2.2;refine (Zbm d1 f1 B _ _ _ ss1 _ (g1.below (hq.mono hB1)) (Nat.le_trans hB0 hq.size)).mono ?_;rintro e w1 ⟨B1,e1,rfl,ho1,hb1⟩;have hqs1:=hq.size;have hbs1:=hb1.size;(try simp at hqs1);(try simp at hbs1);(have hkk1:w1.heap[w.heap.size+1]?=some (.cells #[.int .i64 0,.int .i64 0,.slice none 0 0,.int .i64 0,.int .i64 0,.slice none 0 0,.slice none 0 0] 29):=(by first|exact Za hk2 hb1|exact Za (ZaK hk2) hb1)))|(go_at_call_of 122 (Value.agg #[.int .i64 d2,.int .i64 f2,.slice A2 ss2.length c2]);have hq:=(‹_∧_∧Below _ _ _›).2.2;refine (Zbm d2 f2 B _ _ _ ss2 _ (g2.below (hq.mono hB1)) (Nat.le_trans hB0 hq.size)).mono ?_;rintro e w2 ⟨B2,e2,rfl,ho2,hb2⟩;have hqs2:=hq.size;have hbs2:=hb2.size;(try simp at hqs2);(try simp at hbs2);have hkk2:=Za hkk1 hb2)|(go_at_call 137;have hq:=(‹_∧_∧Below _ _ _›).2.2;refine (ZlJ B _ _ _ st _ (g3.below (hq.mono hB1)) (Nat.le_trans hB0 hq.size)).mono ?_;rintro e w3 ⟨B3,e3,rfl,ho3,hb3⟩;have hqs3:=hq.size;have hbs3:=hb3.size;(try simp at hqs3);(try simp at hbs3);have hkk:=Za hkk2 hb3;have hf0:=(Zc hkk 0).2;have hf1:=(Zc hkk 1).2;have hf2:=(Zc hkk 2).2;have hf3:=(Zc hkk 3).2;have hf4:=(Zc hkk 4).2;have hf5:=(Zc hkk 5).2;have hf6:=(Zc hkk 6).2;obtain ⟨hv0,hv1,hv2,hv3,hv4,hv5,hv6,hvl⟩:=Zbh hkk))
 go_wp2
 have hne:∀ k,(Value.slice B1 ss1.length e1).ownBlock=some k→(Value.slice B2 ss2.length e2).ownBlock≠some k:=by
  intro k hk hk2
  have a:=(ho1.lt k hk).2
  have b:=(ho2.lt k hk2).1
  omega
 have hb01:Below w0.heap.size w0 w1:=by first|exact hb1|exact (Below.refl _ _).drew.trans hb1
 have hbw3:Below w.heap.size w w3:=hbW.trans (((hb01.mono hzw).trans (hb2.mono (by omega))).trans (hb3.mono (by omega)))
 have hzd:w0.drew.heap.size=w0.heap.size:=rfl
 clear hbW hb01
 refine bodyPost_ret (v:=.agg #[.int .i64 d1,.int .i64 f1,.slice B1 ss1.length e1,.int .i64 d2,.int .i64 f2,.slice B2 ss2.length e2,.slice B3 st.length e3]) (by simp [results,Tryz.results84,go_sem, *]) rfl ?_
 have HBW3:=Zk hbw3
 clear hbw3
 refine ⟨B1,e1,B2,e2,B3,e3,rfl,⟨ZaD ho1 upr (by first|exact Nat.le_refl _|(simp;done)|omega|(simp;omega)|exact (‹_∧_∧Below _ _ _›).2.2.size),ZaD ho2 upr (by first|exact Nat.le_refl _|(simp;done)|omega|(simp;omega)|exact (‹_∧_∧Below _ _ _›).2.2.size),ZaD ho3 upr (by first|exact Nat.le_refl _|(simp;done)|omega|(simp;omega)|exact (‹_∧_∧Below _ _ _›).2.2.size),hne⟩,?_⟩
 have hbw3:=Ze HBW3
 clear hb1 hb2 hb3
 exact bel
theorem Zd6 (d1 f1:Int) (ss1:List ByteArray) (d2 f2:Int) (ss2:List ByteArray) (st:List Zv) (B:Nat) (A1 A2 A3:Option Addr) (c1 c2 c3:Nat) (w:World) (hS:ZbY w B A1 A2 A3 ⟨d1,f1,ss1,d2,f2,ss2,st⟩) (hB:B≤w.heap.size) :
  Calls Tryz.prog 84 #[.agg #[.int .i64 d1,.int .i64 f1,.slice A1 ss1.length c1,.int .i64 d2,.int .i64 f2,.slice A2 ss2.length c2,.slice A3 st.length c3]] w (ZlV d1 f1 ss1 d2 f2 ss2 st w) :=
 (ZiI d1 f1 ss1 d2 f2 ss2 st B A1 A2 A3 c1 c2 c3 w hS hB).mono fun _ _ h=>by
  obtain ⟨B1,e1,B2,e2,B3,e3,he,ho,hb⟩:=h
  exact ⟨B1,e1,B2,e2,B3,e3,he,ZcX.of ho (Nat.le_refl _),hb⟩
set_option maxHeartbeats 6400000 in
theorem ZgJ (d1 f1:Int) (ss1:List ByteArray) (d2 f2:Int) (ss2:List ByteArray) (st:List Zv) (B:Nat) (A1 A2 A3:Option Addr) (c1 c2 c3:Nat) (w:World) (hS:ZbY w B A1 A2 A3 ⟨d1,f1,ss1,d2,f2,ss2,st⟩) (hB:B≤w.heap.size) :
  Calls Tryz.prog 172 #[.agg #[.int .i64 d1,.int .i64 f1,.slice A1 ss1.length c1,.int .i64 d2,.int .i64 f2,.slice A2 ss2.length c2,.slice A3 st.length c3]] w (ZlV d1 f1 ss1 d2 f2 ss2 st w):=by
 have h1:ZaJ w B A1 ss1.length ss1:=hS.s1
 have h2:ZaJ w B A2 ss2.length ss2:=hS.s2
 have h3:Zd2 w B A3 st.length st:=hS.st
 have hn1:=h1.nb
 have hn2:=h2.nb
 have hn3:=h3.nb
 have hone:=Zft st
 have HONE:=Zk hone
 clear hone
 obtain ⟨i0,hi0,hz0,hz1,hz2⟩:=info_parts ZcU
 go_enter Tryz.func172,Tryz.ntmps172
 go_wp2
 have hbW:Below w.heap.size w ((w.alloc (.cells #[.int .i64 d1,.int .i64 f1,.slice A1 ss1.length c1,.int .i64 d2,.int .i64 f2,.slice A2 ss2.length c2,.slice A3 st.length c3] 29)).alloc (.cells #[.int .i64 0,.int .i64 0,.slice none 0 0,.int .i64 0,.int .i64 0,.slice none 0 0,.slice none 0 0] 29)):=bel
 have hk1:=Zfj w (.cells #[.int .i64 d1,.int .i64 f1,.slice A1 ss1.length c1,.int .i64 d2,.int .i64 f2,.slice A2 ss2.length c2,.slice A3 st.length c3] 29) (.cells #[.int .i64 0,.int .i64 0,.slice none 0 0,.int .i64 0,.int .i64 0,.slice none 0 0,.slice none 0 0] 29)
 have hk2:=ZeC w (.cells #[.int .i64 d1,.int .i64 f1,.slice A1 ss1.length c1,.int .i64 d2,.int .i64 f2,.slice A2 ss2.length c2,.slice A3 st.length c3] 29) (.cells #[.int .i64 0,.int .i64 0,.slice none 0 0,.int .i64 0,.int .i64 0,.slice none 0 0,.slice none 0 0] 29)
 generalize ((w.alloc (.cells #[.int .i64 d1,.int .i64 f1,.slice A1 ss1.length c1,.int .i64 d2,.int .i64 f2,.slice A2 ss2.length c2,.slice A3 st.length c3] 29)).alloc (.cells #[.int .i64 0,.int .i64 0,.slice none 0 0,.int .i64 0,.int .i64 0,.slice none 0 0,.slice none 0 0] 29))=w0 at *
 have hzw:=hbW.size
 have hz0_:=Zg hk1
 have hz1_:=Zg hk2
 obtain ⟨hx0,hx1,hx2,hx3,hx4,hx5,hx6,hxl⟩:=Zbh hk1
 have g1:=h1.below (hbW.mono hB)
 have g2:=h2.below (hbW.mono hB)
 have g3:=h3.below (hbW.mono hB)
 have hB0:B≤w0.heap.size:=by omega
 have hB1:B≤w.heap.size+1:=by omega
 have hz1q:w.heap.size+1≤w0.heap.size:=by omega
 go_region_held3 (fun W=>(∀ b o,b<w.heap.size+1→W.cell? ⟨b,o,none⟩=(w0).cell? ⟨b,o,none⟩)∧(∀ b o,b<w.heap.size+1→W.frozen? ⟨b,o,none⟩=(w0).frozen? ⟨b,o,none⟩)∧Below (w.heap.size+1) (w0) W) (exact ZbA bel) (first|(go_at_call_of 181 (Value.agg #[.int .i64 d1,.int .i64 f1,.slice A1 ss1.length c1]);have hq:=(‹_∧_∧Below _ _ _›).2.2;refine (ZaZ d1 f1 B _ _ _ ss1 _ (g1.below (hq.mono hB1)) (Nat.le_trans hB0 hq.size)).mono ?_;rintro e w1 ⟨B1,e1,rfl,hor,hb1⟩;(have ho1:=Zbr (base':=w0.heap.size) hor (by first|exact hq.size|exact Nat.le_refl _));have hqs1:=hq.size;have hbs1:=hb1.size;(try simp at hqs1);(try simp at hbs1);(have hkk1:w1.heap[w.heap.size+1]?=some (.cells #[.int .i64 0,.int .i64 0,.slice none 0 0,.int .i64 0,.int .i64 0,.slice none 0 0,.slice none 0 0] 29):=(by first|exact Za hk2 hb1|exact Za (ZaK hk2) hb1|exact Za (Zb hk2 _) hb1|exact Za (ZaK (Zb hk2 _)) hb1));(have hlt1:∀ k,(Value.slice B1 ss1.length e1).ownBlock=some k→k<w1.heap.size:=fun k hk=>(ho1.lt k hk).2))|(go_at_call_of 181 (Value.agg #[.int .i64 d2,.int .i64 f2,.slice A2 ss2.length c2]);have hq:=(‹_∧_∧Below _ _ _›).2.2;refine (ZaZ d2 f2 B _ _ _ ss2 _ (g2.below (hq.mono hB1)) (Nat.le_trans hB0 hq.size)).mono ?_;rintro e w2 ⟨B2,e2,rfl,hor,hb2⟩;(have ho2:=Zbr (base':=w0.heap.size) hor (by first|exact hq.size|exact Nat.le_refl _));have hqs2:=hq.size;have hbs2:=hb2.size;(try simp at hqs2);(try simp at hbs2);(have hkk2:w2.heap[w.heap.size+1]?=some (.cells #[.int .i64 0,.int .i64 0,.slice none 0 0,.int .i64 0,.int .i64 0,.slice none 0 0,.slice none 0 0] 29):=(by first|exact Za hkk1 hb2|exact Za (ZaK hkk1) hb2|exact Za (Zb hkk1 _) hb2|exact Za (ZaK (Zb hkk1 _)) hb2));(have hne:∀ k,(Value.slice B1 ss1.length e1).ownBlock=some k→(Value.slice B2 ss2.length e2).ownBlock≠some k:=(by intro k hk hk2;have a:=hlt1 k hk;have b:=(hor.lt k hk2).1;have b2:=hq.size;(try simp at b);omega)))|((have hb2X:Below w1.heap.size w1 w2:=(by first|exact hb2|exact ⟨hb2.os,hb2.tape,hb2.output,hb2.size,hb2.block⟩));(have hoE:World.ownsRow w2 w0.heap.size 167 7 (.slice (some ⟨w0.heap.size,0,none⟩) 0 0) 0 []:=Zx (Zx (Zdy w0 _ _ rfl (by omega)) (show Below (w0.alloc (.cells #[] 167)).heap.size (w0.alloc (.cells #[] 167)) w1 from (by first|exact hb1|exact ⟨hb1.os,hb1.tape,hb1.output,hb1.size,hb1.block⟩))) hb2X);refine Za1 _ rfl (.tmp 9) (.tmp 11) _ rfl w0.heap.size 167 i0 _ 7 72 Tryz.underlying27 hi0 hz0 hz1 hz2 rfl (by omega) (.slice (some ⟨w0.heap.size,0,none⟩) 0 0) 0 [] rfl ?_ B A3 st.length c3 (st.flatMap ZaY) rfl ?_ (Ze HONE) ?_ ?_ ?_ ?_;(first|exact hoE|exact ⟨hoE.1,hoE.2⟩);(have hq:=(‹_∧_∧Below _ _ _›).2.2;exact g3.rd.below (hq.mono hB1));(unfold maxLen;omega);omega;(have hq:=(‹_∧_∧Below _ _ _›).2.2;exact hq.size);intro v3 w3 ho3 hg3 hat3;(have hz3:=hg3.size;(try simp at hz3));have hq3:=(‹_∧_∧Below _ _ _›).2.2;(have hbw3:=Zaf hg3 (B:=w.heap.size+1) (fun k hk=>Nat.le_trans hz1q (hoE.lt k hk).1) (Nat.le_trans hz1q hq3.size));(have hbq3:=hq3.trans hbw3);(have hg3X:World.grownBy w2 w3 (Value.ownBlock (.slice (some ⟨w0.heap.size,0,none⟩) 0 0)):=(by first|exact hg3|exact ⟨hg3.os,hg3.tape,hg3.output,hg3.size,hg3.block⟩));have hkW:=hkk2;(have hkk3:=Zak hkW hg3X hoE (by decide));(have hoo1:=Za9 (Zx ho1 hb2X) hg3X (fun k hk he=>ZaS (Zx ho1 hb2X) hoE (by decide) k hk he));(have hoo2:=Za9 ho2 hg3X (fun k hk he=>ZaS ho2 hoE (by decide) k hk he));clear hg3X hg3 hkW hoE hb2X hat3 hbw3;obtain ⟨hv0,hv1,hv2,hv3,hv4,hv5,hv6,hvl⟩:=Zbh hkk3;have hf0:=(Zc hkk3 0).2;have hf1:=(Zc hkk3 1).2;have hf2:=(Zc hkk3 2).2;have hf3:=(Zc hkk3 3).2;have hf4:=(Zc hkk3 4).2;have hf5:=(Zc hkk3 5).2;have hf6:=(Zc hkk3 6).2;rw [Nat.zero_add,List.nil_append] at ho3;obtain ⟨B3,e3,rfl⟩:=Zbg ho3)|((have hb2X:Below (w1.alloc (.cells #[] 167)).heap.size (w1.alloc (.cells #[] 167)) w2:=(by first|exact hb2|exact ⟨hb2.os,hb2.tape,hb2.output,hb2.size,hb2.block⟩));(have hoE:World.ownsRow w2 w0.heap.size 167 7 (.slice (some ⟨w1.heap.size,0,none⟩) 0 0) 0 []:=Zx (Zdy w1 _ _ rfl (by omega)) (show Below (w1.alloc (.cells #[] 167)).heap.size (w1.alloc (.cells #[] 167)) w2 from hb2X));refine Za1 _ rfl (.tmp 9) (.tmp 11) _ rfl w0.heap.size 167 i0 _ 7 72 Tryz.underlying27 hi0 hz0 hz1 hz2 rfl (by omega) (.slice (some ⟨w1.heap.size,0,none⟩) 0 0) 0 [] rfl ?_ B A3 st.length c3 (st.flatMap ZaY) rfl ?_ (Ze HONE) ?_ ?_ ?_ ?_;(first|exact hoE|exact ⟨hoE.1,hoE.2⟩);(have hq:=(‹_∧_∧Below _ _ _›).2.2;exact g3.rd.below (hq.mono hB1));(unfold maxLen;omega);omega;(have hq:=(‹_∧_∧Below _ _ _›).2.2;exact hq.size);intro v3 w3 ho3 hg3 hat3;(have hz3:=hg3.size;(try simp at hz3));have hq3:=(‹_∧_∧Below _ _ _›).2.2;(have hbw3:=Zaf hg3 (B:=w.heap.size+1) (fun k hk=>Nat.le_trans hz1q (hoE.lt k hk).1) (Nat.le_trans hz1q hq3.size));(have hbq3:=hq3.trans hbw3);(have hg3X:World.grownBy w2 w3 (Value.ownBlock (.slice (some ⟨w1.heap.size,0,none⟩) 0 0)):=(by first|exact hg3|exact ⟨hg3.os,hg3.tape,hg3.output,hg3.size,hg3.block⟩));have hkW:=hkk2;(have hkk3:=Zak hkW hg3X hoE (by decide));(have hoo1:=Za9 (Zx (ho1.alloc (.cells #[] 167)) (show Below (w1.alloc (.cells #[] 167)).heap.size (w1.alloc (.cells #[] 167)) w2 from hb2X)) hg3X (fun k hk he=>ZaS (Zx (ho1.alloc (.cells #[] 167)) (show Below (w1.alloc (.cells #[] 167)).heap.size (w1.alloc (.cells #[] 167)) w2 from hb2X)) hoE (by decide) k hk he));(have hoo2:=Za9 ho2 hg3X (fun k hk he=>ZaS ho2 hoE (by decide) k hk he));clear hg3X hg3 hkW hoE hb2X hat3 hbw3;obtain ⟨hv0,hv1,hv2,hv3,hv4,hv5,hv6,hvl⟩:=Zbh hkk3;have hf0:=(Zc hkk3 0).2;have hf1:=(Zc hkk3 1).2;have hf2:=(Zc hkk3 2).2;have hf3:=(Zc hkk3 3).2;have hf4:=(Zc hkk3 4).2;have hf5:=(Zc hkk3 5).2;have hf6:=(Zc hkk3 6).2;rw [Nat.zero_add,List.nil_append] at ho3;obtain ⟨B3,e3,rfl⟩:=Zbg ho3)|((have hb2X:Below w1.heap.size w1 w2:=(by first|exact hb2|exact ⟨hb2.os,hb2.tape,hb2.output,hb2.size,hb2.block⟩));(have hoE:World.ownsRow (w2.alloc (.cells #[] 167)) w0.heap.size 167 7 (.slice (some ⟨w2.heap.size,0,none⟩) 0 0) 0 []:=Zdy w2 _ _ rfl (by omega));refine Za1 _ rfl (.tmp 9) (.tmp 11) _ rfl w0.heap.size 167 i0 _ 7 72 Tryz.underlying27 hi0 hz0 hz1 hz2 rfl (by omega) (.slice (some ⟨w2.heap.size,0,none⟩) 0 0) 0 [] rfl ?_ B A3 st.length c3 (st.flatMap ZaY) rfl ?_ (Ze HONE) ?_ ?_ ?_ ?_;(first|exact hoE|exact ⟨hoE.1,hoE.2⟩);(have hq:=(‹_∧_∧Below _ _ _›).2.2;exact g3.rd.below (hq.mono hB1));(unfold maxLen;omega);omega;(have hq:=(‹_∧_∧Below _ _ _›).2.2;exact hq.size);intro v3 w3 ho3 hg3 hat3;(have hz3:=hg3.size;(try simp at hz3));have hq3:=(‹_∧_∧Below _ _ _›).2.2;(have hbw3:=Zaf hg3 (B:=w.heap.size+1) (fun k hk=>Nat.le_trans hz1q (hoE.lt k hk).1) (Nat.le_trans hz1q hq3.size));(have hbq3:=hq3.trans hbw3);(have hg3X:World.grownBy (w2.alloc (.cells #[] 167)) w3 (Value.ownBlock (.slice (some ⟨w2.heap.size,0,none⟩) 0 0)):=(by first|exact hg3|exact ⟨hg3.os,hg3.tape,hg3.output,hg3.size,hg3.block⟩));have hkW:=(Zb hkk2 (.cells #[] 167));(have hkk3:=Zak hkW hg3X hoE (by decide));(have hoo1:=Za9 ((Zx ho1 hb2X).alloc (.cells #[] 167)) hg3X (fun k hk he=>ZaS ((Zx ho1 hb2X).alloc (.cells #[] 167)) hoE (by decide) k hk he));(have hoo2:=Za9 (ho2.alloc (.cells #[] 167)) hg3X (fun k hk he=>ZaS (ho2.alloc (.cells #[] 167)) hoE (by decide) k hk he));clear hg3X hg3 hkW hoE hb2X hat3 hbw3;obtain ⟨hv0,hv1,hv2,hv3,hv4,hv5,hv6,hvl⟩:=Zbh hkk3;have hf0:=(Zc hkk3 0).2;have hf1:=(Zc hkk3 1).2;have hf2:=(Zc hkk3 2).2;have hf3:=(Zc hkk3 3).2;have hf4:=(Zc hkk3 4).2;have hf5:=(Zc hkk3 5).2;have hf6:=(Zc hkk3 6).2;rw [Nat.zero_add,List.nil_append] at ho3;obtain ⟨B3,e3,rfl⟩:=Zbg ho3))
 all_goals (
  go_wp2
  have hzf:=hbq3.size
  have hbw9:Below w.heap.size w w3:=hbW.trans (hbq3.mono (by omega))
  refine bodyPost_ret (v:=.agg #[.int .i64 d1,.int .i64 f1,.slice B1 ss1.length e1,.int .i64 d2,.int .i64 f2,.slice B2 ss2.length e2,.slice B3 st.length e3]) (by simp [results,Tryz.results172,go_sem, *]) rfl ?_
  have hbx:=Zl hkk3
  have HBW9:=Zk hbw9
  clear hbw9
  refine ⟨B1,e1,B2,e2,B3,e3,rfl,⟨(Zaa.of (Zbr hoo1 hzw) (Nat.le_refl _)).boxy (by repeat (first|(with_reducible exact Zj.refl _)|(with_reducible refine Zj.drew ?_)|(with_reducible refine Zj.drewN ?_ _)|(with_reducible refine Zj.alloc ?_ _)|((with_reducible refine Zj.setCell ?_ ?hbs _);(case hbs=>first|(with_reducible exact .inl (by assumption))|exact .inl (by assumption)|exact .inr (by simp)|exact .inr (by simp;omega)))))|>.wide (Nat.le_refl _) (by simp),(Zaa.of (Zbr hoo2 hzw) (Nat.le_refl _)).boxy (by repeat (first|(with_reducible exact Zj.refl _)|(with_reducible refine Zj.drew ?_)|(with_reducible refine Zj.drewN ?_ _)|(with_reducible refine Zj.alloc ?_ _)|((with_reducible refine Zj.setCell ?_ ?hbs _);(case hbs=>first|(with_reducible exact .inl (by assumption))|exact .inl (by assumption)|exact .inr (by simp)|exact .inr (by simp;omega)))))|>.wide (Nat.le_refl _) (by simp),(ZbN.of (Zbr ho3 hzw) (Nat.le_refl _)).boxy (by repeat (first|(with_reducible exact Zj.refl _)|(with_reducible refine Zj.drew ?_)|(with_reducible refine Zj.drewN ?_ _)|(with_reducible refine Zj.alloc ?_ _)|((with_reducible refine Zj.setCell ?_ ?hbs _);(case hbs=>first|(with_reducible exact .inl (by assumption))|exact .inl (by assumption)|exact .inr (by simp)|exact .inr (by simp;omega)))))|>.wide (Nat.le_refl _) (by simp),hne⟩,?_⟩
  have hbw9:=Ze HBW9
  clear hb1 hb2
  exact bel)
theorem Zer (W:World) (cs:Array Value) (t:TypeId) (n size:Nat) (h:cs.size=n * size):Zal (W.alloc (.cells cs t)) (W.heap.size+1) size (some ⟨W.heap.size,0,none⟩) n cs.toList :=
 ⟨by simpa using h,fun _=>⟨_,rfl,by simp,fun j u hj=>World.news_of_block (Zy W (.cells cs t)) j u hj⟩⟩
theorem Ze6 (s:Zv):∀ u∈ZaY s,u.oneCell'=true:=by
 intro u h
 simp [ZaY] at h
 rcases h with rfl|rfl|rfl|rfl|rfl|rfl|rfl <;> rfl
def Zbx (D:Zd) (s:Zv):Zd×Bool :=
 if (ZaG D=true∧D.st.length≠40)∧(Zab true D.d2 D.f2 D.ss2 s.K s.F s.L s.T s.I s.b s.a).2=true then (⟨D.d1,D.f1,D.ss1,D.d2,D.f2,(Zab true D.d2 D.f2 D.ss2 s.K s.F s.L s.T s.I s.b s.a).1,D.st++[s]⟩,true) else (D,false)
theorem ZfI {D:Zd} (h:ZaG D=true):D.st.length≤40:=by
 rcases Nat.lt_or_ge 40 D.st.length with h1|h1
 ·rw [ZeY (by omega)] at h;cases h
 ·exact h1
theorem ZhX (D:Zd) (s:Zv) (h:Zdw D 1048576) (hs:s.b.size≤16777216∧s.a.size≤16777216):Zdw (Zbx D s).1 1048576:=by
 unfold Zbx
 split
 ·rename_i hc
  have h40:=ZfI hc.1.1
  have h2:=Zez true D.d2 D.f2 D.ss2 s.K s.F s.L s.T s.I s.b s.a 1048576 h.l2 (by omega) h.z2 hs.1 hs.2
  refine ⟨h.l1,h2.1,by simp;omega,h.z1,h2.2,fun x hx=>?_⟩
  rcases List.mem_append.1 hx with hx|hx
  ·exact h.z3 x hx
  ·rw [List.mem_singleton.1 hx];exact hs
 ·exact h
theorem Zhd {w:World} {base n c m size:Nat} {e:TypeId} {a:Addr} {xs:List Value} (h:w.ownsRow base e size (.slice (some a) n c) n xs) (hm:m≤n) :
  w.ownsRow base e size (.slice (some a) m c) m (xs.take (m * size)):=by
 have hx:=h.1
 have hmn:m * size≤n * size:=Nat.mul_le_mul_right _ hm
 refine ⟨by rw [List.length_take];omega,?_⟩
 rcases h.2 with ⟨hv,hn⟩|⟨g,cap,cur,hv,hb,hg,hnc,hcm,hcs,ht⟩
 ·injection hv with e1;cases e1
 ·injection hv with e1 e2 e3
  subst e3
  refine .inr ⟨g,c,cur,by rw [e1],hb,hg,by omega,hcm,hcs,?_⟩
  rw [← ht,List.take_take]
  congr 1
  omega
theorem Zk1 {w:World} {base n c size:Nat} {e:TypeId} {A:Option Addr} {xs:List Value} (h:w.ownsRow base e size (.slice A n c) n xs):n≤c∧c≤9223372036854775807:=by
 rcases h.2 with ⟨hv,h0⟩|⟨g',cap,cur,hv,_,_,h1,h2,_⟩
 ·injection hv with _ _ e3;omega
 ·injection hv with _ _ e3;subst e3;unfold maxLen at h2;exact ⟨h1,by omega⟩
def ZaE (D:Zd):Zd×Bool :=
 if ZaG D=true then match D.st.getLast? with|some s=>(⟨D.d1,D.f1,D.ss1,D.d2,D.f2,(Zab false D.d2 D.f2 D.ss2 s.K s.F s.L s.T s.I s.b s.a).1,D.st.dropLast⟩,true)|none=>(D,false) else (D,false)
theorem ZhT {D:Zd} (h:ZaG D=false):ZaE D=(D,false):=by unfold ZaE;rw [h];rfl
theorem Zg2 {D:Zd} (h:D.st=[]):ZaE D=(D,false):=by unfold ZaE;rw [h];split <;> rfl
theorem Zg5 {d1 f1:Int} {ss1:List ByteArray} {d2 f2:Int} {ss2:List ByteArray} {l:List Zv} {s:Zv} (h:ZaG ⟨d1,f1,ss1,d2,f2,ss2,l++[s]⟩=true):ZaE ⟨d1,f1,ss1,d2,f2,ss2,l++[s]⟩=(⟨d1,f1,ss1,d2,f2,(Zab false d2 f2 ss2 s.K s.F s.L s.T s.I s.b s.a).1,l⟩,true):=by
 unfold ZaE;rw [h];simp
theorem ZfP (D:Zd) (h:Zdw D 1048576):Zdw (ZaE D).1 1048576:=by
 unfold ZaE
 split
 ·split
  ·rename_i s hs
   have hm:=List.mem_of_getLast? hs
   have hz:=h.z3 s hm
   have h2:=Zez false D.d2 D.f2 D.ss2 s.K s.F s.L s.T s.I s.b s.a 1048576 h.l2 (by omega) h.z2 hz.1 hz.2
   exact ⟨h.l1,h2.1,by have:=h.l3;simp;omega,h.z1,h2.2,fun x hx=>h.z3 x (List.dropLast_subset _ hx)⟩
  ·exact h
 ·exact h
theorem ZdV.weak {d1 f1:Int} {ss1:List ByteArray} {d2 f2:Int} {ss2:List ByteArray} {st:List Zv} {b:Bool} {w w':World} {e:Ending} (h:ZdV d1 f1 ss1 d2 f2 ss2 st b w e w'):Ze0 d1 f1 ss1 d2 f2 ss2 st b w e w':=by
 obtain ⟨B1,e1,B2,e2,B3,e3,he,ho,hb⟩:=h
 exact ⟨B1,e1,B2,e2,B3,e3,he,ZbF.of ho,hb⟩
theorem Zed {D:Zd} {b:Bool} {q:Zd×Bool} {w w':World} {e:Ending} (h:q=(D,b)) (hu:Ze0 D.d1 D.f1 D.ss1 D.d2 D.f2 D.ss2 D.st b w e w'):Ze0 q.1.d1 q.1.f1 q.1.ss1 q.1.d2 q.1.f2 q.1.ss2 q.1.st q.2 w e w':=by subst h;exact hu
end Go.Proofs.YtlimlolciekimaaGreatDoor
