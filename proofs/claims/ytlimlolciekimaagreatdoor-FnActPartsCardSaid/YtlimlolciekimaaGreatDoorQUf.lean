/- Contracts of the program's and the reference's functions (Draft1, UDraft, UDraftW, Draft3, Draft2, Draft4, Draft5, Undo1, Draft6, Draft7). -/
import Derived.Deep.DeepCutAuto
import Derived.Deep.RegionHeld3
import Derived.Deep.RegionLaw
import Derived.Test.YtlimlolciekimaaGreatDoorRows
import Derived.Test.YtlimlolciekimaaGreatDoorQUb
import Derived.Test.YtlimlolciekimaaGreatDoorQUa
import Derived.Test.YtlimlolciekimaaGreatDoorQUe
namespace Go.Proofs.YtlimlolciekimaaGreatDoor
set_option maxHeartbeats 1600000
open Go.ChangeShapes Go.WideShapes Go.ChangeAt Go.RowKit
set_option linter.unusedVariables false
set_option maxRecDepth 10000
def szSteps:List PStep→Int→Int
 |[],left=>left
 |s :: l,left=>if szStep s.b s.a left<0 then -1 else szSteps l (szStep s.b s.a left)
def szStepL (l:List PStep) (left:Int):Int:=if left - l.length<0 then -1 else szSteps l (left - l.length)
structure PDraft where
 (d1 f1:Int)
 (ss1:List ByteArray)
 (d2 f2:Int)
 (ss2:List ByteArray)
 (st:List PStep)
def szD (D:PDraft) (left:Int):Int :=
 if szStrs D.ss1 left<0 then -1 else if szStrs D.ss2 (szStrs D.ss1 left)<0 then -1 else szStepL D.st (szStrs D.ss2 (szStrs D.ss1 left))
structure RdDraft (w:World) (B:Nat) (A1 A2 A3:Option Addr) (D:PDraft):Prop where
 s1:Strs w B A1 D.ss1.length D.ss1
 s2:Strs w B A2 D.ss2.length D.ss2
 st:Steps w B A3 D.st.length D.st
section
variable {w w':World} {B B':Nat} {A1 A2 A3:Option Addr} {D:PDraft}
theorem RdDraft.below (h:RdDraft w B A1 A2 A3 D) (hb:Below B w w'):RdDraft w' B A1 A2 A3 D:=⟨h.s1.below hb,h.s2.below hb,h.st.below hb⟩
theorem RdDraft.alloc (h:RdDraft w B A1 A2 A3 D) (hB:B≤w.heap.size) (o:Obj):RdDraft (w.alloc o) B A1 A2 A3 D:=⟨h.s1.alloc hB o,h.s2.alloc hB o,h.st.alloc hB o⟩
end
def draftV (D:PDraft) (A1:Option Addr) (c1:Nat) (A2:Option Addr) (c2:Nat) (A3:Option Addr) (c3:Nat):Array Value :=
 #[.int .i64 D.d1,.int .i64 D.f1,.slice A1 D.ss1.length c1,.int .i64 D.d2,.int .i64 D.f2,.slice A2 D.ss2.length c2,.slice A3 D.st.length c3]
structure OwnDraft (w:World) (base:Nat) (A1:Option Addr) (c1:Nat) (A2:Option Addr) (c2:Nat) (A3:Option Addr) (c3:Nat) (D:PDraft):Prop where
 o1:w.ownsRow base 9 1 (.slice A1 D.ss1.length c1) D.ss1.length (D.ss1.map Value.string)
 o2:w.ownsRow base 9 1 (.slice A2 D.ss2.length c2) D.ss2.length (D.ss2.map Value.string)
 o3:w.ownsRow base 167 7 (.slice A3 D.st.length c3) D.st.length (D.st.flatMap stepCells)
 ne:∀ k,(Value.slice A1 D.ss1.length c1).ownBlock=some k→(Value.slice A2 D.ss2.length c2).ownBlock≠some k
structure OkDraft (D:PDraft) (m:Nat):Prop where
 l1:D.ss1.length≤m
 l2:D.ss2.length≤m
 l3:D.st.length≤m
 z1:∀ s∈D.ss1,s.size≤16777216
 z2:∀ s∈D.ss2,s.size≤16777216
 z3:∀ s∈D.st,s.b.size≤16777216∧s.a.size≤16777216
theorem OwnDraft.rd {w:World} {base:Nat} {A1 A2 A3:Option Addr} {c1 c2 c3:Nat} {D:PDraft} (h:OwnDraft w base A1 c1 A2 c2 A3 c3 D) (hD:OkDraft D 16777216):RdDraft w w.heap.size A1 A2 A3 D :=
 ⟨strs_of_own h.o1 hD.l1 hD.z1,strs_of_own h.o2 hD.l2 hD.z2,⟨Reads.of_own h.o3,hD.l3,hD.z3⟩⟩
def FreshDraft (base:Nat) (D:PDraft) (w:World) (e:Ending) (w':World):Prop :=
 ∃ A1 c1 A2 c2 A3 c3,e=.returned (.agg (draftV D A1 c1 A2 c2 A3 c3))∧OwnDraft w' base A1 c1 A2 c2 A3 c3 D∧Below w.heap.size w w'
open Go.ChangeShapes Go.WideShapes Go.ChangeAt Go.RowKit
set_option linter.unusedVariables false
set_option maxRecDepth 10000
structure OwnSt (w:World) (lo hi:Nat) (A:Option Addr) (c:Nat) (st:List PStep):Prop where
 row:w.ownsRow lo 167 7 (.slice A st.length c) st.length (st.flatMap stepCells)
 top:∀ k,(Value.slice A st.length c).ownBlock=some k→k<hi
section
variable {lo hi lo' hi':Nat} {w w':World} {A:Option Addr} {c:Nat} {st:List PStep}
theorem OwnSt.within {l h:Nat} (ho:OwnSt w lo hi A c st) (hW:Within l h w w') (hd:hi≤l∨h≤lo):OwnSt w' lo hi A c st :=
 ⟨own_within ho.row hW (fun k hk=>by have h1:=ho.top k hk;have h2:=(ho.row.lt k hk).1;omega),ho.top⟩
theorem OwnSt.below (ho:OwnSt w lo hi A c st) (hb:Below w.heap.size w w'):OwnSt w' lo hi A c st:=⟨own_below ho.row hb,ho.top⟩
theorem OwnSt.box {g:Nat} {cs:Array Value} {t:TypeId} {fr:Nat×Nat} (ho:OwnSt w lo hi A c st) (hk:w.heap[g]?=some (.cells cs t fr)) (ht:t∉rowTys) (hg:w.grownBy w' (some g)):OwnSt w' lo hi A c st:=⟨own_box ho.row (by decide) hk ht hg,ho.top⟩
theorem OwnSt.boxy (ho:OwnSt w lo hi A c st) (h:Boxy w w'):OwnSt w' lo hi A c st:=⟨own_boxy ho.row (by decide) h,ho.top⟩
theorem OwnSt.drew (ho:OwnSt w lo hi A c st):OwnSt w.drew lo hi A c st:=⟨ho.row,ho.top⟩
theorem OwnSt.alloc (ho:OwnSt w lo hi A c st) (o:Obj):OwnSt (w.alloc o) lo hi A c st:=⟨ho.row.alloc _,ho.top⟩
theorem OwnSt.wide (ho:OwnSt w lo hi A c st) (h1:lo'≤lo) (h2:hi≤hi'):OwnSt w lo' hi' A c st:=⟨own_base ho.row h1,fun k hk=>by have:=ho.top k hk;omega⟩
theorem OwnSt.of (ho:w.ownsRow lo 167 7 (.slice A st.length c) st.length (st.flatMap stepCells)) (h:w.heap.size≤hi):OwnSt w lo hi A c st:=⟨ho,fun k hk=>by have:=(ho.lt k hk).2;omega⟩
end
structure OwnD (w:World) (lo hi:Nat) (A1:Option Addr) (c1:Nat) (A2:Option Addr) (c2:Nat) (A3:Option Addr) (c3:Nat) (D:PDraft):Prop where
 o1:OwnS w lo hi A1 c1 D.ss1
 o2:OwnS w lo hi A2 c2 D.ss2
 o3:OwnSt w lo hi A3 c3 D.st
 ne:∀ k,(Value.slice A1 D.ss1.length c1).ownBlock=some k→(Value.slice A2 D.ss2.length c2).ownBlock≠some k
section
variable {lo hi lo' hi':Nat} {w w':World} {A1 A2 A3:Option Addr} {c1 c2 c3:Nat} {D:PDraft}
theorem OwnD.below (ho:OwnD w lo hi A1 c1 A2 c2 A3 c3 D) (hb:Below w.heap.size w w'):OwnD w' lo hi A1 c1 A2 c2 A3 c3 D:=⟨ho.o1.below hb,ho.o2.below hb,ho.o3.below hb,ho.ne⟩
theorem OwnD.boxy (ho:OwnD w lo hi A1 c1 A2 c2 A3 c3 D) (h:Boxy w w'):OwnD w' lo hi A1 c1 A2 c2 A3 c3 D:=⟨ho.o1.boxy h,ho.o2.boxy h,ho.o3.boxy h,ho.ne⟩
theorem OwnD.drew (ho:OwnD w lo hi A1 c1 A2 c2 A3 c3 D):OwnD w.drew lo hi A1 c1 A2 c2 A3 c3 D:=⟨ho.o1.drew,ho.o2.drew,ho.o3.drew,ho.ne⟩
theorem OwnD.alloc (ho:OwnD w lo hi A1 c1 A2 c2 A3 c3 D) (o:Obj):OwnD (w.alloc o) lo hi A1 c1 A2 c2 A3 c3 D:=⟨ho.o1.alloc o,ho.o2.alloc o,ho.o3.alloc o,ho.ne⟩
theorem OwnD.wide (ho:OwnD w lo hi A1 c1 A2 c2 A3 c3 D) (h1:lo'≤lo) (h2:hi≤hi'):OwnD w lo' hi' A1 c1 A2 c2 A3 c3 D:=⟨ho.o1.wide h1 h2,ho.o2.wide h1 h2,ho.o3.wide h1 h2,ho.ne⟩
theorem OwnD.old (ho:OwnD w lo hi A1 c1 A2 c2 A3 c3 D):OwnDraft w lo A1 c1 A2 c2 A3 c3 D:=⟨ho.o1.row,ho.o2.row,ho.o3.row,ho.ne⟩
theorem OwnD.of (ho:OwnDraft w lo A1 c1 A2 c2 A3 c3 D) (h:w.heap.size≤hi):OwnD w lo hi A1 c1 A2 c2 A3 c3 D:=⟨OwnS.of ho.o1 h,OwnS.of ho.o2 h,OwnSt.of ho.o3 h,ho.ne⟩
theorem OwnD.rd (ho:OwnD w lo hi A1 c1 A2 c2 A3 c3 D) (hD:OkDraft D 16777216):RdDraft w w.heap.size A1 A2 A3 D:=ho.old.rd hD
end
def UDraft (d1 f1:Int) (ss1:List ByteArray) (d2 f2:Int) (ss2:List ByteArray) (st:List PStep) (w:World) (e:Ending) (w':World):Prop :=
 ∃ B1 e1 B2 e2 B3 e3,e=.returned (.agg #[.int .i64 d1,.int .i64 f1,.slice B1 ss1.length e1,.int .i64 d2,.int .i64 f2,.slice B2 ss2.length e2,.slice B3 st.length e3])∧OwnD w' w.heap.size w'.heap.size B1 e1 B2 e2 B3 e3 ⟨d1,f1,ss1,d2,f2,ss2,st⟩∧Below w.heap.size w w'
def UDraftB (d1 f1:Int) (ss1:List ByteArray) (d2 f2:Int) (ss2:List ByteArray) (st:List PStep) (b:Bool) (w:World) (e:Ending) (w':World):Prop :=
 ∃ B1 e1 B2 e2 B3 e3,e=.returned (.tuple #[.agg #[.int .i64 d1,.int .i64 f1,.slice B1 ss1.length e1,.int .i64 d2,.int .i64 f2,.slice B2 ss2.length e2,.slice B3 st.length e3],.bool b])∧OwnD w' w.heap.size w'.heap.size B1 e1 B2 e2 B3 e3 ⟨d1,f1,ss1,d2,f2,ss2,st⟩∧Below w.heap.size w w'
structure MkD (w:World) (lo hi:Nat) (A1:Option Addr) (c1 n1:Nat) (A2:Option Addr) (c2 n2:Nat) (A3:Option Addr) (c3 n3:Nat) (k:Int):Prop where
 m1:MkS w lo hi A1 c1 k n1
 m2:MkS w lo hi A2 c2 (k+n1) n2
 m3:w.ownsRow lo 167 7 (.slice A3 n3 c3) n3 (marksStep (k+n1+n2) n3)
section
variable {lo hi:Nat} {w w':World} {A1 A2 A3:Option Addr} {c1 c2 c3 n1 n2 n3:Nat} {k:Int}
end
open Go.ChangeShapes Go.WideShapes Go.ChangeAt Go.RowKit
set_option linter.unusedVariables false
set_option maxRecDepth 10000
structure OwnDW (w:World) (lo hi:Nat) (A1:Option Addr) (c1:Nat) (A2:Option Addr) (c2:Nat) (A3:Option Addr) (c3:Nat) (D:PDraft):Prop where
 o1:OwnS w lo hi A1 c1 D.ss1
 o2:OwnS w lo hi A2 c2 D.ss2
 o3:∃ c0,OwnSt w lo hi A3 c0 D.st
 ne:∀ k,(Value.slice A1 D.ss1.length c1).ownBlock=some k→(Value.slice A2 D.ss2.length c2).ownBlock≠some k
section
variable {lo hi lo' hi':Nat} {w w':World} {A1 A2 A3:Option Addr} {c1 c2 c3:Nat} {D:PDraft}
theorem OwnDW.within {l h:Nat} (ho:OwnDW w lo hi A1 c1 A2 c2 A3 c3 D) (hW:Within l h w w') (hd:hi≤l∨h≤lo):OwnDW w' lo hi A1 c1 A2 c2 A3 c3 D:=⟨ho.o1.within hW hd,ho.o2.within hW hd,(ho.o3.elim fun c0 h3=>⟨c0,h3.within hW hd⟩),ho.ne⟩
theorem OwnDW.below (ho:OwnDW w lo hi A1 c1 A2 c2 A3 c3 D) (hb:Below w.heap.size w w'):OwnDW w' lo hi A1 c1 A2 c2 A3 c3 D:=⟨ho.o1.below hb,ho.o2.below hb,(ho.o3.elim fun c0 h3=>⟨c0,h3.below hb⟩),ho.ne⟩
theorem OwnDW.box {g:Nat} {cs:Array Value} {t:TypeId} {fr:Nat×Nat} (ho:OwnDW w lo hi A1 c1 A2 c2 A3 c3 D) (hk:w.heap[g]?=some (.cells cs t fr)) (ht:t∉rowTys) (hg:w.grownBy w' (some g)):OwnDW w' lo hi A1 c1 A2 c2 A3 c3 D:=⟨ho.o1.box hk ht hg,ho.o2.box hk ht hg,(ho.o3.elim fun c0 h3=>⟨c0,h3.box hk ht hg⟩),ho.ne⟩
theorem OwnDW.boxy (ho:OwnDW w lo hi A1 c1 A2 c2 A3 c3 D) (h:Boxy w w'):OwnDW w' lo hi A1 c1 A2 c2 A3 c3 D:=⟨ho.o1.boxy h,ho.o2.boxy h,(ho.o3.elim fun c0 h3=>⟨c0,h3.boxy h⟩),ho.ne⟩
theorem OwnDW.drew (ho:OwnDW w lo hi A1 c1 A2 c2 A3 c3 D):OwnDW w.drew lo hi A1 c1 A2 c2 A3 c3 D:=⟨ho.o1.drew,ho.o2.drew,(ho.o3.elim fun c0 h3=>⟨c0,h3.drew⟩),ho.ne⟩
theorem OwnDW.alloc (ho:OwnDW w lo hi A1 c1 A2 c2 A3 c3 D) (o:Obj):OwnDW (w.alloc o) lo hi A1 c1 A2 c2 A3 c3 D:=⟨ho.o1.alloc o,ho.o2.alloc o,(ho.o3.elim fun c0 h3=>⟨c0,h3.alloc o⟩),ho.ne⟩
theorem OwnDW.of (ho:OwnD w lo hi A1 c1 A2 c2 A3 c3 D):OwnDW w lo hi A1 c1 A2 c2 A3 c3 D:=⟨ho.o1,ho.o2,⟨c3,ho.o3⟩,ho.ne⟩
theorem OwnDW.rd (ho:OwnDW w lo hi A1 c1 A2 c2 A3 c3 D) (hD:OkDraft D 16777216):RdDraft w w.heap.size A1 A2 A3 D:=by
 obtain ⟨c0,h3⟩:=ho.o3
 exact ⟨ho.o1.rd hD.l1 hD.z1,ho.o2.rd hD.l2 hD.z2,⟨Reads.of_own h3.row,hD.l3,hD.z3⟩⟩
end
def UDraftW (d1 f1:Int) (ss1:List ByteArray) (d2 f2:Int) (ss2:List ByteArray) (st:List PStep) (w:World) (e:Ending) (w':World):Prop :=
 ∃ B1 e1 B2 e2 B3 e3,e=.returned (.agg #[.int .i64 d1,.int .i64 f1,.slice B1 ss1.length e1,.int .i64 d2,.int .i64 f2,.slice B2 ss2.length e2,.slice B3 st.length e3])∧OwnDW w' w.heap.size w'.heap.size B1 e1 B2 e2 B3 e3 ⟨d1,f1,ss1,d2,f2,ss2,st⟩∧Below w.heap.size w w'
def UDraftWB (d1 f1:Int) (ss1:List ByteArray) (d2 f2:Int) (ss2:List ByteArray) (st:List PStep) (b:Bool) (w:World) (e:Ending) (w':World):Prop :=
 ∃ B1 e1 B2 e2 B3 e3,e=.returned (.tuple #[.agg #[.int .i64 d1,.int .i64 f1,.slice B1 ss1.length e1,.int .i64 d2,.int .i64 f2,.slice B2 ss2.length e2,.slice B3 st.length e3],.bool b])∧OwnDW w' w.heap.size w'.heap.size B1 e1 B2 e2 B3 e3 ⟨d1,f1,ss1,d2,f2,ss2,st⟩∧Below w.heap.size w w'
structure MkDW (w:World) (lo hi:Nat) (A1:Option Addr) (c1 n1:Nat) (A2:Option Addr) (c2 n2:Nat) (A3:Option Addr) (c3 n3:Nat) (k:Int):Prop where
 m1:MkS w lo hi A1 c1 k n1
 m2:MkS w lo hi A2 c2 (k+n1) n2
 m3:∃ c0,w.ownsRow lo 167 7 (.slice A3 n3 c0) n3 (marksStep (k+n1+n2) n3)
section
variable {lo hi:Nat} {w w':World} {A1 A2 A3:Option Addr} {c1 c2 c3 n1 n2 n3:Nat} {k:Int}
end
open Go.ChangeShapes Go.WideShapes Go.ChangeAt Go.RowKit
set_option linter.unusedVariables false
set_option maxRecDepth 10000
theorem OkDraft.more {D:PDraft} {m k:Nat} (h:OkDraft D m) (hm:m≤k):OkDraft D k:=⟨by have:=h.l1;omega,by have:=h.l2;omega,by have:=h.l3;omega,h.z1,h.z2,h.z3⟩
structure RawDraft (w:World) (B:Nat) (A1 A2 A3:Option Addr) (D:PDraft):Prop where
 r1:Reads w B 1 A1 D.ss1.length (D.ss1.map Value.string)
 r2:Reads w B 1 A2 D.ss2.length (D.ss2.map Value.string)
 r3:Reads w B 7 A3 D.st.length (D.st.flatMap stepCells)
 n1:D.ss1.length≤9223372036854775807
 n2:D.ss2.length≤9223372036854775807
 n3:D.st.length≤9223372036854775807
 z1:∀ s∈D.ss1,s.size≤9223372036854775807
 z2:∀ s∈D.ss2,s.size≤9223372036854775807
 z3:∀ s∈D.st,s.b.size≤9223372036854775807∧s.a.size≤9223372036854775807
theorem equal_str (B:Nat) (A1 A2:Option Addr) (n1 n2 c1 c2:Nat) (ss ts:List ByteArray) (w:World) (h1:Strs w B A1 n1 ss) (h2:Strs w B A2 n2 ts) :
  Calls Tryz.prog 191 #[.slice A1 n1 c1,.slice A2 n2 c2] w fun e w'=>e=.returned (.bool (eqSS ss ts))∧∃ m,w'=w.drewN m:=by
 have hl1:=h1.len
 have hl2:=h2.len
 have hn1:=h1.nb
 have hn2:=h2.nb
 by_cases hn:n1=n2
 ·subst hn
  have HL1:=Lib.hid hl1
  have HL2:=Lib.hid hl2
  clear hl1 hl2
  go_enter Tryz.func191,Tryz.ntmps191
  go_wp2
  go_loopw [13] (fun i wr=>∃ j m:Nat,j≤n1∧i=.int .i64 j∧wr=w.drewN m∧Hid (ss.take j=ts.take j)) (fun i _=>n1 - (intOf i).toNat)
  case atStart=>exact ⟨0,0,Nat.zero_le _,rfl,rfl,by unfold Hid;simp⟩
  case round =>
   obtain ⟨j,m,hj,rfl,rfl,HT⟩:=hrel
   by_cases hlt:j<n1
   ·obtain ⟨hk1,ad1,rfl,hab1,hc1,_⟩:=h1.at_ hlt
    obtain ⟨hk2,ad2,rfl,hab2,hc2,_⟩:=h2.at_ hlt
    by_cases he:ss[j]=ts[j]
    ·have HE:=Lib.hid he
     have hbq:=beq_toList_true he
     clear he
     go_wp2
     go_quiet (fail)
     go_wp2
     go_roundw
     case rel =>
      refine ⟨j+1,_,by omega,by go_num,by first|rfl|exact World.drewN_drewN _ _ _,?_⟩
      unfold Hid
      rw [List.take_succ_eq_append_getElem hk1,List.take_succ_eq_append_getElem hk2,HT.out,HE.out]
     case measure=>simp [intOf];omega
    ·have HF:Hid (eqSS ss ts=false):=by
      unfold Hid eqSS
      rw [decide_eq_false_iff_not]
      intro h;subst h;exact he rfl
     have hbq:=beq_toList_false he
     clear he
     go_wp2
     go_quiet (fail)
     go_wp2
     go_ret
     exact ⟨ret_bool HF.out.symm,by first|exact ⟨_,rfl⟩|exact ⟨_,World.drewN_drewN _ _ _⟩⟩
   ·have HF:Hid (eqSS ss ts=true):=by
     unfold Hid eqSS
     rw [decide_eq_true_iff]
     have h:=HT.out
     rw [List.take_of_length_le (by have:=HL1.out;omega),List.take_of_length_le (by have:=HL2.out;omega)] at h
     exact h
    go_wp2
    go_ret
    exact ⟨ret_bool HF.out.symm,by first|exact ⟨_,rfl⟩|exact ⟨_,World.drewN_drewN _ _ _⟩⟩
 ·have HF:Hid (eqSS ss ts=false):=by
   unfold Hid eqSS
   rw [decide_eq_false_iff_not]
   intro h;subst h;omega
  clear hl1 hl2
  go_enter Tryz.func191,Tryz.ntmps191
  go_wp2
  go_ret
  exact ⟨ret_bool HF.out.symm,⟨0,rfl⟩⟩
theorem blk_other3 {w:World} {g g2:Nat} {o:Obj} (h:w.heap[g]?=some o) (hne:g≠g2) (a b c:Value):(((w.setCell ⟨g2,0,none⟩ a).setCell ⟨g2,1,none⟩ b).setCell ⟨g2,2,none⟩ c).heap[g]?=some o :=
 (Below.heap_setCell _ _ _ _ hne).trans ((Below.heap_setCell _ _ _ _ hne).trans ((Below.heap_setCell _ _ _ _ hne).trans h))
def sameCard (d f d2 f2:Int) (ss ts:List ByteArray):Bool:=(d==d2)&&((f==f2)&&eqSS ss ts)
theorem i_SameCard (d f d2 f2:Int) (B:Nat) (A A2:Option Addr) (n c n2 c2:Nat) (ss ts:List ByteArray) (w:World) (hS:Strs w B A n ss) (hT:Strs w B A2 n2 ts) (hB:B≤w.heap.size) :
  Calls Tryz.prog 135 #[.agg #[.int .i64 d,.int .i64 f,.slice A n c],.agg #[.int .i64 d2,.int .i64 f2,.slice A2 n2 c2]] w fun e w'=>e=.returned (.bool (sameCard d f d2 f2 ss ts))∧Below w.heap.size w w':=by
 have hn:=hS.nb
 have hn2:=hT.nb
 have hS2:=(hS.alloc hB (.cells #[.int .i64 d,.int .i64 f,.slice A n c] 26)).alloc (by simp;omega) (.cells #[.int .i64 d2,.int .i64 f2,.slice A2 n2 c2] 26)
 have hT2:=(hT.alloc hB (.cells #[.int .i64 d,.int .i64 f,.slice A n c] 26)).alloc (by simp;omega) (.cells #[.int .i64 d2,.int .i64 f2,.slice A2 n2 c2] 26)
 have arm:=fun (W:World) (h1:Strs W B A n ss) (h2:Strs W B A2 n2 ts)=>equal_str B A A2 n n2 c c2 ss ts W h1 h2
 have ARM:=hide arm
 clear arm
 unfold sameCard
 cases h3:(d==d2)
 ·go_enter Tryz.func135,Tryz.ntmps135
  go_wp2
  go_ret
  exact ⟨rfl,bel⟩
 ·cases h4:(f==f2)
  ·go_enter Tryz.func135,Tryz.ntmps135
   go_wp2
   go_ret
   exact ⟨rfl,bel⟩
  ·go_enter Tryz.func135,Tryz.ntmps135
   go_wp2_with (go_at_call 191;refine (unhide ARM _ hS2 hT2).mono ?_;rintro e w' ⟨rfl,m,rfl⟩)
   go_ret
   exact ⟨ret_bool (by simp),bel⟩
theorem s_SameCard (d f d2 f2:Int) (B:Nat) (A A2:Option Addr) (n c n2 c2:Nat) (ss ts:List ByteArray) (w:World) (hS:Strs w B A n ss) (hT:Strs w B A2 n2 ts) (hB:B≤w.heap.size) :
  Calls Tryz.prog 29 #[.agg #[.int .i64 d,.int .i64 f,.slice A n c],.agg #[.int .i64 d2,.int .i64 f2,.slice A2 n2 c2]] w fun e w'=>e=.returned (.bool (sameCard d f d2 f2 ss ts))∧Below w.heap.size w w':=by
 have hn:=hS.nb
 have hn2:=hT.nb
 have hS2:=(hS.alloc hB (.cells #[.int .i64 d,.int .i64 f,.slice A n c] 26)).alloc (by simp;omega) (.cells #[.int .i64 d2,.int .i64 f2,.slice A2 n2 c2] 26)
 have hT2:=(hT.alloc hB (.cells #[.int .i64 d,.int .i64 f,.slice A n c] 26)).alloc (by simp;omega) (.cells #[.int .i64 d2,.int .i64 f2,.slice A2 n2 c2] 26)
 have hl:=hS.len
 have hl2:=hT.len
 have hnq:(n:Int)=n2→ss.length=ts.length:=fun h=>by omega
 have hnn:¬(n:Int)=n2→eqSS ss ts=false:=fun h=>by unfold eqSS;rw [decide_eq_false_iff_not];intro h2;subst h2;omega
 have HNN:=hide hnn
 have HL:=Lib.hid hl
 have HL2:=Lib.hid hl2
 clear hl hl2 hnq hnn
 unfold sameCard
 cases h3:(d==d2)
 ·have e3:(d != d2)=true:=by simpa using h3
  go_enter Tryz.func29,Tryz.ntmps29
  go_wp2
  go_ret
  exact ⟨rfl,bel⟩
 ·have e3:(d != d2)=false:=by simpa using h3
  cases h4:(f==f2)
  ·have e4:(f != f2)=true:=by simpa using h4
   go_enter Tryz.func29,Tryz.ntmps29
   go_wp2
   go_ret
   exact ⟨rfl,bel⟩
  ·have e4:(f != f2)=false:=by simpa using h4
   cases h5:((n:Int)==(n2:Int))
   ·have HF:=Lib.hid (unhide HNN (by simpa using h5))
    have e5:((n:Int) != (n2:Int))=true:=by simpa using h5
    go_enter Tryz.func29,Tryz.ntmps29
    go_wp2
    go_ret
    exact ⟨ret_bool (by rw [HF.out];rfl),bel⟩
   ·have hni:(n:Int)=n2:=by simpa using h5
    have hnn:n=n2:=by omega
    clear hni
    subst hnn
    clear h5
    go_enter Tryz.func29,Tryz.ntmps29
    go_wp2
    go_loopw [5] (fun i wr=>∃ j m:Nat,j≤n∧i=.int .i64 j∧wr=((w.alloc (.cells #[.int .i64 d,.int .i64 f,.slice A n c] 26)).alloc (.cells #[.int .i64 d2,.int .i64 f2,.slice A2 n c2] 26)).drewN m∧Hid (ss.take j=ts.take j)) (fun i _=>n - (intOf i).toNat)
    case atStart=>exact ⟨0,0,Nat.zero_le _,rfl,rfl,by unfold Hid;simp⟩
    case round =>
     obtain ⟨j,m,hj,rfl,rfl,HT⟩:=hrel
     by_cases hlt:j<n
     ·obtain ⟨hk1,ad1,rfl,hab1,hc1,_⟩:=hS.at_ hlt
      obtain ⟨hk2,ad2,rfl,hab2,hc2,_⟩:=hT.at_ hlt
      have hcc1:∀ o p:Obj,((w.alloc o).alloc p).cell? (ad1.add j)=some (.string ss[j]):=fun o p=>by
       rw [World.cell?_alloc_lt _ _ _ (by rw [block_of_add];simp;omega),World.cell?_alloc_lt _ _ _ (by rw [block_of_add];omega)];exact hc1
      have hcc2:∀ o p:Obj,((w.alloc o).alloc p).cell? (ad2.add j)=some (.string ts[j]):=fun o p=>by
       rw [World.cell?_alloc_lt _ _ _ (by rw [block_of_add];simp;omega),World.cell?_alloc_lt _ _ _ (by rw [block_of_add];omega)];exact hc2
      by_cases he:ss[j]=ts[j]
      ·have HE:=Lib.hid he
       have hbq:=beq_toList_true he
       clear he
       go_wp2
       go_quiet (fail)
       go_wp2
       go_roundw
       case rel =>
        refine ⟨j+1,_,by omega,by go_num,by first|rfl|exact World.drewN_drewN _ _ _,?_⟩
        unfold Hid
        rw [List.take_succ_eq_append_getElem hk1,List.take_succ_eq_append_getElem hk2,HT.out,HE.out]
       case measure=>simp [intOf];omega
      ·have HF:Hid (eqSS ss ts=false):=by
        unfold Hid eqSS
        rw [decide_eq_false_iff_not]
        intro h;subst h;exact he rfl
       have hbq:=beq_toList_false he
       clear he
       go_wp2
       go_quiet (fail)
       go_wp2
       go_ret
       exact ⟨ret_bool (by rw [HF.out];rfl),bel⟩
     ·have HF:Hid (eqSS ss ts=true):=by
       unfold Hid eqSS
       rw [decide_eq_true_iff]
       have h:=HT.out
       rw [List.take_of_length_le (by have:=HL.out;omega),List.take_of_length_le (by have:=HL2.out;omega)] at h
       exact h
      go_wp2
      go_ret
      exact ⟨ret_bool (by rw [HF.out];rfl),bel⟩
def runSteps (d f:Int):List PStep→List ByteArray→Option (List ByteArray)
 |[],ss=>some ss
 |s :: l,ss=>if (stepRes true d f ss s.K s.F s.L s.T s.I s.b s.a).2=true then runSteps d f l (stepRes true d f ss s.K s.F s.L s.T s.I s.b s.a).1 else none
def draftOk (D:PDraft):Bool :=
 (cardOk D.d1 D.f1 D.ss1&&decide (D.st.length≤40))&&match runSteps D.d1 D.f1 D.st D.ss1 with|some ss=>sameCard D.d1 D.f1 D.d2 D.f2 ss D.ss2|none=>false
theorem runSteps_drop {d f:Int} {ss:List ByteArray} {l:List PStep} {k:Nat} (h:k<l.length):runSteps d f (l.drop k) ss =
  if (stepRes true d f ss l[k].K l[k].F l[k].L l[k].T l[k].I l[k].b l[k].a).2=true then runSteps d f (l.drop (k+1)) (stepRes true d f ss l[k].K l[k].F l[k].L l[k].T l[k].I l[k].b l[k].a).1 else none:=by
 rw [List.drop_eq_getElem_cons h];rfl
theorem draftOk_no1 {D:PDraft} (h:cardOk D.d1 D.f1 D.ss1=false):draftOk D=false:=by unfold draftOk;rw [h];rfl
theorem draftOk_no2 {D:PDraft} (h:¬D.st.length≤40):draftOk D=false:=by unfold draftOk;rw [decide_eq_false h];simp
theorem draftOk_none {D:PDraft} (h:runSteps D.d1 D.f1 D.st D.ss1=none):draftOk D=false:=by unfold draftOk;rw [h];simp
theorem draftOk_some {D:PDraft} {ss:List ByteArray} (h1:cardOk D.d1 D.f1 D.ss1=true) (h2:D.st.length≤40) (h:runSteps D.d1 D.f1 D.st D.ss1=some ss):draftOk D=sameCard D.d1 D.f1 D.d2 D.f2 ss D.ss2:=by unfold draftOk;rw [h,h1,decide_eq_true h2];rfl
set_option maxHeartbeats 6000000 in
theorem i_DraftOk (D:PDraft) (B:Nat) (A1 A2 A3:Option Addr) (c1 c2 c3:Nat) (w:World) (hS:RdDraft w B A1 A2 A3 D) (hB:B≤w.heap.size) :
  Calls Tryz.prog 82 #[.agg (draftV D A1 c1 A2 c2 A3 c3)] w fun e w'=>e=.returned (.bool (draftOk D))∧Below w.heap.size w w':=by
 obtain ⟨d1,f1,ss1,d2,f2,ss2,st⟩:=D
 obtain ⟨h1,h2,h3⟩:=hS
 simp only at h1 h2 h3
 have hp1:=draftOk_no1 (D:=⟨d1,f1,ss1,d2,f2,ss2,st⟩)
 have hp2:=draftOk_no2 (D:=⟨d1,f1,ss1,d2,f2,ss2,st⟩)
 have hp3:=draftOk_none (D:=⟨d1,f1,ss1,d2,f2,ss2,st⟩)
 have hp4:=fun ss=>draftOk_some (D:=⟨d1,f1,ss1,d2,f2,ss2,st⟩) (ss:=ss)
 simp only at hp1 hp2 hp3 hp4
 generalize hr:draftOk ⟨d1,f1,ss1,d2,f2,ss2,st⟩=r at *
 clear hr
 unfold draftV
 simp only
 have hn1:=h1.nb
 have hn2:=h2.nb
 have hn3:=h3.nb
 cases hck:cardOk d1 f1 ss1
 ·have HP:=Lib.hid (hp1 hck)
  clear hp1 hp2 hp3 hp4
  go_enter Tryz.func82,Tryz.ntmps82
  go_wp2_with (first|(go_at_call 70;refine (i_CardOk _ _ _ _ _ ss1 _ ((h1.alloc hB (.cells #[.int .i64 d1,.int .i64 f1,.slice A1 ss1.length c1,.int .i64 d2,.int .i64 f2,.slice A2 ss2.length c2,.slice A3 st.length c3] 29)).more (by simp;omega))).mono ?_;rw [hck];rintro e w1 ⟨rfl,hb1⟩;obtain ⟨hcb1,hfb1⟩:=bcell hb1;obtain ⟨qaa,qba⟩:=zs1 (show w.heap.size<w1.heap.size by have hzz:=hb1.size;(try simp at hzz);omega)))
  go_ret
  exact ⟨ret_bool HP.out.symm,bel⟩
 ·by_cases h40:st.length≤40
  ·have HP3:=hide hp3
   have HP4:=hide (hp4 · hck h40)
   clear hp1 hp2 hp3 hp4
   go_enter Tryz.func82,Tryz.ntmps82
   go_wp2_with (first|(go_at_call 70;refine (i_CardOk _ _ _ _ _ ss1 _ ((h1.alloc hB (.cells #[.int .i64 d1,.int .i64 f1,.slice A1 ss1.length c1,.int .i64 d2,.int .i64 f2,.slice A2 ss2.length c2,.slice A3 st.length c3] 29)).more (by simp;omega))).mono ?_;rw [hck];rintro e w1 ⟨rfl,hb1⟩;obtain ⟨hcb1,hfb1⟩:=bcell hb1;obtain ⟨qaa,qba⟩:=zs1 (show w.heap.size<w1.heap.size by have hzz:=hb1.size;(try simp at hzz);omega)))
   have hkd:=blk_next (blk_new w (.cells #[.int .i64 d1,.int .i64 f1,.slice A1 ss1.length c1,.int .i64 d2,.int .i64 f2,.slice A2 ss2.length c2,.slice A3 st.length c3] 29)) hb1
   have hw1s:=qaa
   have hbW:Below w.heap.size w (w1.alloc (.cells #[.int .i64 d1,.int .i64 f1,.slice A1 ss1.length c1] 26)):=bel
   have hkn:=blk_new w1 (.cells #[.int .i64 d1,.int .i64 f1,.slice A1 ss1.length c1] 26)
   have hkd2:=blk_alloc hkd (.cells #[.int .i64 d1,.int .i64 f1,.slice A1 ss1.length c1] 26)
   have hS0:Strs (w1.alloc (.cells #[.int .i64 d1,.int .i64 f1,.slice A1 ss1.length c1] 26)) (w1.alloc (.cells #[.int .i64 d1,.int .i64 f1,.slice A1 ss1.length c1] 26)).heap.size A1 ss1.length ss1:=(((h1.alloc hB (.cells #[.int .i64 d1,.int .i64 f1,.slice A1 ss1.length c1,.int .i64 d2,.int .i64 f2,.slice A2 ss2.length c2,.slice A3 st.length c3] 29)).below (hb1.mono (by simp;omega))).alloc (by omega) (.cells #[.int .i64 d1,.int .i64 f1,.slice A1 ss1.length c1] 26)).more (by simp;omega)
   have hg4:w1.heap.size<(w1.alloc (.cells #[.int .i64 d1,.int .i64 f1,.slice A1 ss1.length c1] 26)).heap.size:=by simp
   generalize w1.alloc (.cells #[.int .i64 d1,.int .i64 f1,.slice A1 ss1.length c1] 26)=w5 at *
   have hwB:w.heap.size≤w5.heap.size:=hbW.size
   go_loopw [23] (fun i wr=>∃ (k N:Nat) (A':Option Addr) (c':Nat) (sk:List ByteArray),k≤st.length∧N≤16777216∧i=.int .i64 k∧Hid (runSteps d1 f1 (st.drop k) sk=runSteps d1 f1 st ss1) ∧
     wr.heap[w1.heap.size]?=some (.cells #[.int .i64 d1,.int .i64 f1,.slice A' N c'] 26 (0,0))∧wr.heap[w.heap.size]?=some (.cells #[.int .i64 d1,.int .i64 f1,.slice A1 ss1.length c1,.int .i64 d2,.int .i64 f2,.slice A2 ss2.length c2,.slice A3 st.length c3] 29)∧Strs wr wr.heap.size A' N sk∧w5.heap.size≤wr.heap.size∧Below w.heap.size w wr) (fun i _=>st.length - (intOf i).toNat)
   case atStart=>exact ⟨0,ss1.length,A1,c1,ss1,Nat.zero_le _,hn1,rfl,rfl,hkn,hkd2,hS0,Nat.le_refl _,hbW⟩
   case round =>
    obtain ⟨k,N,A',c',sk,hk,hN,rfl,HF,hblk,hkd3,hSk,hzw,hb⟩:=hrel
    obtain ⟨hx0,hx1,hx2,hxl⟩:=blk3 hblk
    obtain ⟨hd0,hd1,hd2,hd3,hd4,hd5,hd6,hdl⟩:=blk7 hkd3
    by_cases hlt:k<st.length
    ·obtain ⟨hkl,ad,rfl,hab,hc0,hc1,hc2,hc3,hc4,hc5,hc6,hsb,hsa⟩:=(h3.below (hb.mono hB)).at_ hlt
     have hstep:=runSteps_drop (d:=d1) (f:=f1) (ss:=sk) (l:=st) (k:=k) hkl
     have HST:=Lib.hid hstep
     clear hstep
     have hbo:=stepRes_ok true d1 f1 sk st[k].K st[k].F st[k].L st[k].T st[k].I st[k].b st[k].a 16777216 (by have:=hSk.len;omega) (by omega) hSk.sb hsb hsa
     have HBO:=hide hbo
     clear hbo
     have hcon:=fun (W:World) (h:Strs W wr.heap.size A' N sk) (hz:wr.heap.size≤W.heap.size)=>i_StepOn d1 f1 wr.heap.size A' N c' sk st[k].K st[k].F st[k].L st[k].T st[k].I st[k].b st[k].a W h hz hsb hsa
     have HCON:=hide hcon
     clear hcon hsb hsa
     generalize er:(stepRes true d1 f1 sk st[k].K st[k].F st[k].L st[k].T st[k].I st[k].b st[k].a).1=sr at *
     generalize eb:(stepRes true d1 f1 sk st[k].K st[k].F st[k].L st[k].T st[k].I st[k].b st[k].a).2=br at *
     clear er eb
     cases hbr:br
     ·subst hbr
      have HP:=Lib.hid (unhide HP3 (by rw [← HF.out,HST.out];simp))
      go_wp2_with (first|(go_at_call 134;refine (unhide HCON _ (hSk.alloc (Nat.le_refl _) _) (by simp)).mono ?_;rintro e w7 ⟨A7,c7,rfl,ho7,hb7⟩;have hk7:=blk_next (blk_alloc hblk (.cells #[.int .i64 st[k].K,.int .i64 st[k].F,.int .i64 st[k].L,.int .i64 st[k].T,.int .i64 st[k].I,.string st[k].b,.string st[k].a] 167)) hb7;have hd7:=blk_next (blk_alloc hkd3 (.cells #[.int .i64 st[k].K,.int .i64 st[k].F,.int .i64 st[k].L,.int .i64 st[k].T,.int .i64 st[k].I,.string st[k].b,.string st[k].a] 167)) hb7;have hz7:=hb7.size;(try simp at hz7);obtain ⟨hv0,hv1,hv2,hvl⟩:=blk3 hk7;have hfv0:=(blk_cells hk7 0).2;have hfv1:=(blk_cells hk7 1).2;have hfv2:=(blk_cells hk7 2).2))
      go_ret
      exact ⟨ret_bool HP.out.symm,bel⟩
     ·subst hbr
      have HF2:Hid (runSteps d1 f1 (st.drop (k+1)) sr=runSteps d1 f1 st ss1):=by unfold Hid;rw [← HF.out,HST.out];simp
      go_wp2_with (first|(go_at_call 134;refine (unhide HCON _ (hSk.alloc (Nat.le_refl _) _) (by simp)).mono ?_;rintro e w7 ⟨A7,c7,rfl,ho7,hb7⟩;have hk7:=blk_next (blk_alloc hblk (.cells #[.int .i64 st[k].K,.int .i64 st[k].F,.int .i64 st[k].L,.int .i64 st[k].T,.int .i64 st[k].I,.string st[k].b,.string st[k].a] 167)) hb7;have hd7:=blk_next (blk_alloc hkd3 (.cells #[.int .i64 st[k].K,.int .i64 st[k].F,.int .i64 st[k].L,.int .i64 st[k].T,.int .i64 st[k].I,.string st[k].b,.string st[k].a] 167)) hb7;have hz7:=hb7.size;(try simp at hz7);obtain ⟨hv0,hv1,hv2,hvl⟩:=blk3 hk7;have hfv0:=(blk_cells hk7 0).2;have hfv1:=(blk_cells hk7 1).2;have hfv2:=(blk_cells hk7 2).2))
      have hS7:=strs_of_own ho7 (unhide HBO).1 (unhide HBO).2
      have hb7w:Below w.heap.size w w7:=bel
      have hSf:∀ (u v x:Value) (o:Obj),Strs (((((w7.setCell ⟨w1.heap.size,0,none⟩ u).setCell ⟨w1.heap.size,1,none⟩ v).setCell ⟨w1.heap.size,2,none⟩ x)).alloc o) ((((((w7.setCell ⟨w1.heap.size,0,none⟩ u).setCell ⟨w1.heap.size,1,none⟩ v).setCell ⟨w1.heap.size,2,none⟩ x)).alloc o)).heap.size A7 sr.length sr:=fun u v x o=>strs_of_own ((own3_set ho7 hk7 (by decide) u v x).alloc o) (unhide HBO).1 (unhide HBO).2
      have HSF:=hide hSf
      clear hSf
      go_roundw
      case rel=>exact ⟨k+1,sr.length,A7,c7,sr,by omega,(unhide HBO).1,by go_num,HF2,blk_alloc (blk3_set hk7 _ _ _) _,blk_alloc (blk_other3 hd7 (by omega) _ _ _) _,unhide HSF _ _ _ _,by simp [World.setCell];omega,bel⟩
      case measure=>simp [intOf];omega
    ·have hke:k=st.length:=by omega
     have hd:st.drop k=[]:=List.drop_eq_nil_of_le (by omega)
     have hfin:runSteps d1 f1 st ss1=some sk:=by rw [← HF.out,hd];rfl
     have HP:=Lib.hid (unhide HP4 _ hfin)
     clear hd hfin
     have hT2:=(h2.below (hb.mono hB)).more (by omega:B≤wr.heap.size)
     have hcon:=i_SameCard d1 f1 d2 f2 wr.heap.size A' A2 N c' ss2.length c2 sk ss2
     have HCON:=hide hcon
     clear hcon
     subst hke
     go_wp2_with (first|(go_at_call 135;refine (unhide HCON _ hSk hT2 (Nat.le_refl _)).mono ?_;rintro e w9 ⟨rfl,hb9⟩))
     go_ret
     exact ⟨ret_bool HP.out.symm,hb.trans (hb9.mono (by omega))⟩
  ·have HP:=Lib.hid (hp2 h40)
   clear hp1 hp2 hp3 hp4
   go_enter Tryz.func82,Tryz.ntmps82
   go_wp2_with (first|(go_at_call 70;refine (i_CardOk _ _ _ _ _ ss1 _ ((h1.alloc hB (.cells #[.int .i64 d1,.int .i64 f1,.slice A1 ss1.length c1,.int .i64 d2,.int .i64 f2,.slice A2 ss2.length c2,.slice A3 st.length c3] 29)).more (by simp;omega))).mono ?_;rw [hck];rintro e w1 ⟨rfl,hb1⟩;obtain ⟨hcb1,hfb1⟩:=bcell hb1;obtain ⟨qaa,qba⟩:=zs1 (show w.heap.size<w1.heap.size by have hzz:=hb1.size;(try simp at hzz);omega)))
   go_ret
   exact ⟨ret_bool HP.out.symm,bel⟩
set_option maxHeartbeats 6000000 in
theorem s_DraftOk (D:PDraft) (B:Nat) (A1 A2 A3:Option Addr) (c1 c2 c3:Nat) (w:World) (hS:RdDraft w B A1 A2 A3 D) (hB:B≤w.heap.size) :
  Calls Tryz.prog 92 #[.agg (draftV D A1 c1 A2 c2 A3 c3)] w fun e w'=>e=.returned (.bool (draftOk D))∧Below w.heap.size w w':=by
 obtain ⟨d1,f1,ss1,d2,f2,ss2,st⟩:=D
 obtain ⟨h1,h2,h3⟩:=hS
 simp only at h1 h2 h3
 have hp1:=draftOk_no1 (D:=⟨d1,f1,ss1,d2,f2,ss2,st⟩)
 have hp2:=draftOk_no2 (D:=⟨d1,f1,ss1,d2,f2,ss2,st⟩)
 have hp3:=draftOk_none (D:=⟨d1,f1,ss1,d2,f2,ss2,st⟩)
 have hp4:=fun ss=>draftOk_some (D:=⟨d1,f1,ss1,d2,f2,ss2,st⟩) (ss:=ss)
 simp only at hp1 hp2 hp3 hp4
 generalize hr:draftOk ⟨d1,f1,ss1,d2,f2,ss2,st⟩=r at *
 clear hr
 unfold draftV
 simp only
 have hn1:=h1.nb
 have hn2:=h2.nb
 have hn3:=h3.nb
 cases hck:cardOk d1 f1 ss1
 ·have HP:=Lib.hid (hp1 hck)
  clear hp1 hp2 hp3 hp4
  go_enter Tryz.func92,Tryz.ntmps92
  go_wp2_with (first|(go_at_call 97;refine (s_CardOk _ _ _ _ _ ss1 _ ((h1.alloc hB (.cells #[.int .i64 d1,.int .i64 f1,.slice A1 ss1.length c1,.int .i64 d2,.int .i64 f2,.slice A2 ss2.length c2,.slice A3 st.length c3] 29)).more (by simp;omega))).mono ?_;rw [hck];rintro e w1 ⟨rfl,hb1⟩;obtain ⟨hcb1,hfb1⟩:=bcell hb1;obtain ⟨qaa,qba⟩:=zs1 (show w.heap.size<w1.heap.size by have hzz:=hb1.size;(try simp at hzz);omega)))
  go_ret
  exact ⟨ret_bool HP.out.symm,bel⟩
 ·by_cases h40:st.length≤40
  ·have HP3:=hide hp3
   have HP4:=hide (hp4 · hck h40)
   clear hp1 hp2 hp3 hp4
   go_enter Tryz.func92,Tryz.ntmps92
   go_wp2_with (first|(go_at_call 97;refine (s_CardOk _ _ _ _ _ ss1 _ ((h1.alloc hB (.cells #[.int .i64 d1,.int .i64 f1,.slice A1 ss1.length c1,.int .i64 d2,.int .i64 f2,.slice A2 ss2.length c2,.slice A3 st.length c3] 29)).more (by simp;omega))).mono ?_;rw [hck];rintro e w1 ⟨rfl,hb1⟩;obtain ⟨hcb1,hfb1⟩:=bcell hb1;obtain ⟨qaa,qba⟩:=zs1 (show w.heap.size<w1.heap.size by have hzz:=hb1.size;(try simp at hzz);omega)))
   have hkd:=blk_next (blk_new w (.cells #[.int .i64 d1,.int .i64 f1,.slice A1 ss1.length c1,.int .i64 d2,.int .i64 f2,.slice A2 ss2.length c2,.slice A3 st.length c3] 29)) hb1
   have hw1s:=qaa
   have hbW:Below w.heap.size w (w1.alloc (.cells #[.int .i64 d1,.int .i64 f1,.slice A1 ss1.length c1] 26)):=bel
   have hkn:=blk_new w1 (.cells #[.int .i64 d1,.int .i64 f1,.slice A1 ss1.length c1] 26)
   have hkd2:=blk_alloc hkd (.cells #[.int .i64 d1,.int .i64 f1,.slice A1 ss1.length c1] 26)
   have hS0:Strs (w1.alloc (.cells #[.int .i64 d1,.int .i64 f1,.slice A1 ss1.length c1] 26)) (w1.alloc (.cells #[.int .i64 d1,.int .i64 f1,.slice A1 ss1.length c1] 26)).heap.size A1 ss1.length ss1:=(((h1.alloc hB (.cells #[.int .i64 d1,.int .i64 f1,.slice A1 ss1.length c1,.int .i64 d2,.int .i64 f2,.slice A2 ss2.length c2,.slice A3 st.length c3] 29)).below (hb1.mono (by simp;omega))).alloc (by omega) (.cells #[.int .i64 d1,.int .i64 f1,.slice A1 ss1.length c1] 26)).more (by simp;omega)
   have hg4:w1.heap.size<(w1.alloc (.cells #[.int .i64 d1,.int .i64 f1,.slice A1 ss1.length c1] 26)).heap.size:=by simp
   generalize w1.alloc (.cells #[.int .i64 d1,.int .i64 f1,.slice A1 ss1.length c1] 26)=w5 at *
   have hwB:w.heap.size≤w5.heap.size:=hbW.size
   go_loopw [4] (fun i wr=>∃ (k N:Nat) (A':Option Addr) (c':Nat) (sk:List ByteArray),k≤st.length∧N≤16777216∧i=.int .i64 k∧Hid (runSteps d1 f1 (st.drop k) sk=runSteps d1 f1 st ss1) ∧
     wr.heap[w1.heap.size]?=some (.cells #[.int .i64 d1,.int .i64 f1,.slice A' N c'] 26 (0,0))∧wr.heap[w.heap.size]?=some (.cells #[.int .i64 d1,.int .i64 f1,.slice A1 ss1.length c1,.int .i64 d2,.int .i64 f2,.slice A2 ss2.length c2,.slice A3 st.length c3] 29)∧Strs wr wr.heap.size A' N sk∧w5.heap.size≤wr.heap.size∧Below w.heap.size w wr) (fun i _=>st.length - (intOf i).toNat)
   case atStart=>exact ⟨0,ss1.length,A1,c1,ss1,Nat.zero_le _,hn1,rfl,rfl,hkn,hkd2,hS0,Nat.le_refl _,hbW⟩
   case round =>
    obtain ⟨k,N,A',c',sk,hk,hN,rfl,HF,hblk,hkd3,hSk,hzw,hb⟩:=hrel
    obtain ⟨hx0,hx1,hx2,hxl⟩:=blk3 hblk
    obtain ⟨hd0,hd1,hd2,hd3,hd4,hd5,hd6,hdl⟩:=blk7 hkd3
    by_cases hlt:k<st.length
    ·obtain ⟨hkl,ad,rfl,hab,hc0,hc1,hc2,hc3,hc4,hc5,hc6,hsb,hsa⟩:=(h3.below (hb.mono hB)).at_ hlt
     have hstep:=runSteps_drop (d:=d1) (f:=f1) (ss:=sk) (l:=st) (k:=k) hkl
     have HST:=Lib.hid hstep
     clear hstep
     have hbo:=stepRes_ok true d1 f1 sk st[k].K st[k].F st[k].L st[k].T st[k].I st[k].b st[k].a 16777216 (by have:=hSk.len;omega) (by omega) hSk.sb hsb hsa
     have HBO:=hide hbo
     clear hbo
     have hcon:=fun (W:World) (h:Strs W wr.heap.size A' N sk) (hz:wr.heap.size≤W.heap.size)=>s_StepOn d1 f1 wr.heap.size A' N c' sk st[k].K st[k].F st[k].L st[k].T st[k].I st[k].b st[k].a W h hz hsb hsa
     have HCON:=hide hcon
     clear hcon hsb hsa
     generalize er:(stepRes true d1 f1 sk st[k].K st[k].F st[k].L st[k].T st[k].I st[k].b st[k].a).1=sr at *
     generalize eb:(stepRes true d1 f1 sk st[k].K st[k].F st[k].L st[k].T st[k].I st[k].b st[k].a).2=br at *
     clear er eb
     cases hbr:br
     ·subst hbr
      have HP:=Lib.hid (unhide HP3 (by rw [← HF.out,HST.out];simp))
      go_upto_region 7 with fail
      go_cut [5,6] (fun s5 s6 wx=>∃ (g9:Nat) (A7:Option Addr) (c7:Nat),s5=.pointer (some ⟨g9,0,none⟩)∧s6=.bool false∧wx.heap[g9]?=some (.cells #[.int .i64 d1,.int .i64 f1,.slice A7 sr.length c7] 26 (0,0))∧wx.ownsRow wr.heap.size 9 1 (.slice A7 sr.length c7) sr.length (sr.map Value.string)∧wr.heap.size≤g9∧Below wr.heap.size wr wx)
      case first =>
       have hq1:(ad.add (k * 7)).block<wr.heap.size:=by rw [block_of_add];omega
       go_region_held3 (fun W=>(∀ p:Addr,p.block<wr.heap.size→W.cell? p=(wr).cell? p)∧(∀ p:Addr,p.block<wr.heap.size→W.frozen? p=(wr).frozen? p)∧Below (wr.heap.size) (wr) W) (exact keep_ofP bel) ((go_at_call 147;have hq:=(‹_∧_∧Below _ _ _›).2.2;refine (unhide HCON _ (hSk.below hq) hq.size).mono ?_;rintro e w7 ⟨A7,c7,rfl,ho7r,hb7⟩;(have ho7:=own_base (base':=wr.heap.size) ho7r (by first|exact hq.size|exact Nat.le_refl _));clear ho7r;have hqs:=hq.size;have hbs:=hb7.size;(try simp at hqs);(try simp at hbs);obtain ⟨hcb7,hfb7⟩:=bcell hb7;(try (have hzl:wr.heap.size<w7.heap.size:=(by omega)))))
       all_goals (go_wp2_with fail)
       all_goals (go_meet)
       all_goals (
        refine ⟨_,A7,c7,rfl,rfl,?_,?_,?_,?_⟩
        first
         |exact blk_new _ _
         |exact blk3_set (by first|exact blk_next (blk_new _ _) hb7|exact blk_next (blk_drew (blk_new _ _)) hb7) _ _ _
        first
         |exact ho7.alloc _
         |exact own3_set ho7 (by first|exact blk_next (blk_new _ _) hb7|exact blk_next (blk_drew (blk_new _ _)) hb7) (by decide) _ _ _
        first
         |exact Nat.le_refl _
         |omega
        exact bel)
      obtain ⟨g9,A7,c7,rfl,rfl,hk9,ho9,hg9,hb9⟩:=hcut
      obtain ⟨w7,hwc⟩:∃ W,W=wc:=⟨_,rfl⟩
      subst hwc
      have hk7:=blk_next hblk hb9
      have hd7:=blk_next hkd3 hb9
      have hz7:=hb9.size
      obtain ⟨hv0,hv1,hv2,hvl⟩:=blk3 hk7
      have hfv0:=(blk_cells hk7 0).2
      have hfv1:=(blk_cells hk7 1).2
      have hfv2:=(blk_cells hk7 2).2
      obtain ⟨hg0,hg1,hg2,hgl⟩:=blk3 hk9
      have hb7w:Below w.heap.size w w7:=hb.trans (hb9.mono (by omega))
      clear hx0 hx1 hx2 hxl hd0 hd1 hd2 hd3 hd4 hd5 hd6 hdl
      go_wp2
      go_ret
      exact ⟨ret_bool HP.out.symm,hb7w⟩
     ·subst hbr
      have HF2:Hid (runSteps d1 f1 (st.drop (k+1)) sr=runSteps d1 f1 st ss1):=by unfold Hid;rw [← HF.out,HST.out];simp
      go_upto_region 7 with fail
      go_cut [5,6] (fun s5 s6 wx=>∃ (g9:Nat) (A7:Option Addr) (c7:Nat),s5=.pointer (some ⟨g9,0,none⟩)∧s6=.bool true∧wx.heap[g9]?=some (.cells #[.int .i64 d1,.int .i64 f1,.slice A7 sr.length c7] 26 (0,0))∧wx.ownsRow wr.heap.size 9 1 (.slice A7 sr.length c7) sr.length (sr.map Value.string)∧wr.heap.size≤g9∧Below wr.heap.size wr wx)
      case first =>
       have hq1:(ad.add (k * 7)).block<wr.heap.size:=by rw [block_of_add];omega
       go_region_held3 (fun W=>(∀ p:Addr,p.block<wr.heap.size→W.cell? p=(wr).cell? p)∧(∀ p:Addr,p.block<wr.heap.size→W.frozen? p=(wr).frozen? p)∧Below (wr.heap.size) (wr) W) (exact keep_ofP bel) ((go_at_call 147;have hq:=(‹_∧_∧Below _ _ _›).2.2;refine (unhide HCON _ (hSk.below hq) hq.size).mono ?_;rintro e w7 ⟨A7,c7,rfl,ho7r,hb7⟩;(have ho7:=own_base (base':=wr.heap.size) ho7r (by first|exact hq.size|exact Nat.le_refl _));clear ho7r;have hqs:=hq.size;have hbs:=hb7.size;(try simp at hqs);(try simp at hbs);obtain ⟨hcb7,hfb7⟩:=bcell hb7;(try (have hzl:wr.heap.size<w7.heap.size:=(by omega)))))
       all_goals (go_wp2_with fail)
       all_goals (go_meet)
       all_goals (
        refine ⟨_,A7,c7,rfl,rfl,?_,?_,?_,?_⟩
        first
         |exact blk_new _ _
         |exact blk3_set (by first|exact blk_next (blk_new _ _) hb7|exact blk_next (blk_drew (blk_new _ _)) hb7) _ _ _
        first
         |exact ho7.alloc _
         |exact own3_set ho7 (by first|exact blk_next (blk_new _ _) hb7|exact blk_next (blk_drew (blk_new _ _)) hb7) (by decide) _ _ _
        first
         |exact Nat.le_refl _
         |omega
        exact bel)
      obtain ⟨g9,A7,c7,rfl,rfl,hk9,ho9,hg9,hb9⟩:=hcut
      obtain ⟨w7,hwc⟩:∃ W,W=wc:=⟨_,rfl⟩
      subst hwc
      have hk7:=blk_next hblk hb9
      have hd7:=blk_next hkd3 hb9
      have hz7:=hb9.size
      obtain ⟨hv0,hv1,hv2,hvl⟩:=blk3 hk7
      have hfv0:=(blk_cells hk7 0).2
      have hfv1:=(blk_cells hk7 1).2
      have hfv2:=(blk_cells hk7 2).2
      obtain ⟨hg0,hg1,hg2,hgl⟩:=blk3 hk9
      have hb7w:Below w.heap.size w w7:=hb.trans (hb9.mono (by omega))
      clear hx0 hx1 hx2 hxl hd0 hd1 hd2 hd3 hd4 hd5 hd6 hdl
      go_wp2
      have hSf:∀ (u v x:Value),Strs (((w7.setCell ⟨w1.heap.size,0,none⟩ u).setCell ⟨w1.heap.size,1,none⟩ v).setCell ⟨w1.heap.size,2,none⟩ x) (((w7.setCell ⟨w1.heap.size,0,none⟩ u).setCell ⟨w1.heap.size,1,none⟩ v).setCell ⟨w1.heap.size,2,none⟩ x).heap.size A7 sr.length sr:=fun u v x=>strs_of_own (own3_set ho9 hk7 (by decide) u v x) (unhide HBO).1 (unhide HBO).2
      have HSF:=hide hSf
      clear hSf
      go_roundw
      case rel=>exact ⟨k+1,sr.length,A7,c7,sr,by omega,(unhide HBO).1,by go_num,HF2,blk3_set hk7 _ _ _,blk_other3 hd7 (by omega) _ _ _,unhide HSF _ _ _,by simp [World.setCell];omega,bel⟩
      case measure=>simp [intOf];omega
    ·have hke:k=st.length:=by omega
     have hd:st.drop k=[]:=List.drop_eq_nil_of_le (by omega)
     have hfin:runSteps d1 f1 st ss1=some sk:=by rw [← HF.out,hd];rfl
     have HP:=Lib.hid (unhide HP4 _ hfin)
     clear hd hfin
     have hT2:=(h2.below (hb.mono hB)).more (by omega:B≤wr.heap.size)
     have hcon:=s_SameCard d1 f1 d2 f2 wr.heap.size A' A2 N c' ss2.length c2 sk ss2
     have HCON:=hide hcon
     clear hcon
     subst hke
     go_wp2_with (first|(go_at_call 29;refine (unhide HCON _ hSk hT2 (Nat.le_refl _)).mono ?_;rintro e w9 ⟨rfl,hb9⟩))
     go_ret
     exact ⟨ret_bool HP.out.symm,hb.trans (hb9.mono (by omega))⟩
  ·have HP:=Lib.hid (hp2 h40)
   clear hp1 hp2 hp3 hp4
   go_enter Tryz.func92,Tryz.ntmps92
   go_wp2_with (first|(go_at_call 97;refine (s_CardOk _ _ _ _ _ ss1 _ ((h1.alloc hB (.cells #[.int .i64 d1,.int .i64 f1,.slice A1 ss1.length c1,.int .i64 d2,.int .i64 f2,.slice A2 ss2.length c2,.slice A3 st.length c3] 29)).more (by simp;omega))).mono ?_;rw [hck];rintro e w1 ⟨rfl,hb1⟩;obtain ⟨hcb1,hfb1⟩:=bcell hb1;obtain ⟨qaa,qba⟩:=zs1 (show w.heap.size<w1.heap.size by have hzz:=hb1.size;(try simp at hzz);omega)))
   go_ret
   exact ⟨ret_bool HP.out.symm,bel⟩
theorem stepCells_one (l:List PStep):∀ u∈l.flatMap stepCells,u.oneCell'=true:=by
 intro u hu
 obtain ⟨s,_,h⟩:=List.mem_flatMap.1 hu
 simp [stepCells] at h
 rcases h with rfl|rfl|rfl|rfl|rfl|rfl|rfl <;> rfl
theorem fresh_steps {base n:Nat} {v:Value} {l:List PStep} {w w':World} (hl:l.length=n) (ho:w'.ownsRow base 167 7 v n (l.flatMap stepCells)) (hb:Below w.heap.size w w'):FreshSteps base l w (.returned v) w':=by
 subst hl
 obtain ⟨A,c,rfl⟩:=own_slice ho
 exact ⟨A,c,rfl,ho,hb⟩
theorem clone_step (B:Nat) (A:Option Addr) (n c:Nat) (l:List PStep) (w:World) (hS:Steps w B A n l) (hB:B≤w.heap.size) :
  Calls Tryz.prog 137 #[.slice A n c] w (FreshSteps w.heap.size l w):=by
 have hn:=hS.nb
 have hl:=hS.len
 have hR:=hS.rd
 rcases A with _|ad
 ·have hn0:n=0:=by
   rcases Nat.eq_zero_or_pos n with h0|h0
   ·exact h0
   ·obtain ⟨_,ad,h,_⟩:=hS.at_ h0;cases h
  subst hn0
  have hs0:l=[]:=List.eq_nil_of_length_eq_zero hl
  subst hs0
  have hnil:=fun W=>Lib.run_eql_slice_nil (P:=Tryz.prog) W 27
  clear hl
  go_enter Tryz.func137,Tryz.ntmps137
  go_wp2
  go_ret
  exact ⟨none,0,rfl,World.ownsRow_nil w _ _ _,Below.refl _ _⟩
 ·have hnil:=fun W=>Lib.run_eql_slice_nil (P:=Tryz.prog) W 27
  obtain ⟨i0,hi0,hz0,hz1,hz2⟩:=info_parts info_stepCells
  have hown:(w.alloc (.cells #[] 167)).ownsRow w.heap.size 167 7 (.slice (some ⟨w.heap.size,0,none⟩) 0 0) 0 []:=World.ownsRow_made w #[] 0 (Nat.le_refl _) (by unfold maxLen;omega) rfl
  have hR1:=hR.alloc hB (.cells #[] 167)
  have hone:=stepCells_one l
  have HL:=Lib.hid hl
  have HONE:=hide hone
  clear hl hone
  go_enter Tryz.func137,Tryz.ntmps137
  go_wp2_with (at_builtin;refine wpList_append_N _ rfl (.tmp 5) (.tmp 6) _ rfl w.heap.size 167 i0 _ 7 72 Tryz.underlying27 hi0 hz0 hz1 hz2 rfl (by omega) (.slice (some ⟨w.heap.size,0,none⟩) 0 0) 0 [] rfl hown B (some ad) n c (l.flatMap stepCells) rfl hR1 (unhide HONE) ?_ ?_ ?_ n _ (by omega) (List.nil_append _) ?_;(unfold maxLen;omega);omega;(simp);intro A1 c1 w1 hown1 hb1)
  have hfr:=fresh_steps (l:=l) (n:=n) HL.out hown1 (((Below.refl w.heap.size w).alloc (Nat.le_refl _) _).trans hb1)
  have HFR:=hide hfr
  clear hfr hown1
  go_ret
  exact (unhide HFR)
def FreshDraftX (base:Nat) (d1 f1:Int) (ss1:List ByteArray) (d2 f2:Int) (ss2:List ByteArray) (st:List PStep) (w:World) (e:Ending) (w':World):Prop :=
 ∃ B1 e1 B2 e2 B3 e3,e=.returned (.agg #[.int .i64 d1,.int .i64 f1,.slice B1 ss1.length e1,.int .i64 d2,.int .i64 f2,.slice B2 ss2.length e2,.slice B3 st.length e3])∧OwnDraft w' base B1 e1 B2 e2 B3 e3 ⟨d1,f1,ss1,d2,f2,ss2,st⟩∧Below w.heap.size w w'
set_option maxHeartbeats 3200000 in
theorem i_draftCopied (d1 f1:Int) (ss1:List ByteArray) (d2 f2:Int) (ss2:List ByteArray) (st:List PStep) (B:Nat) (A1 A2 A3:Option Addr) (c1 c2 c3:Nat) (w:World) (hS:RdDraft w B A1 A2 A3 ⟨d1,f1,ss1,d2,f2,ss2,st⟩) (hB:B≤w.heap.size) :
  Calls Tryz.prog 84 #[.agg #[.int .i64 d1,.int .i64 f1,.slice A1 ss1.length c1,.int .i64 d2,.int .i64 f2,.slice A2 ss2.length c2,.slice A3 st.length c3]] w (FreshDraftX w.heap.size d1 f1 ss1 d2 f2 ss2 st w):=by
 have h1:Strs w B A1 ss1.length ss1:=hS.s1
 have h2:Strs w B A2 ss2.length ss2:=hS.s2
 have h3:Steps w B A3 st.length st:=hS.st
 have hn1:=h1.nb
 have hn2:=h2.nb
 have hn3:=h3.nb
 go_enter Tryz.func84,Tryz.ntmps84
 go_wp2
 have hbW:Below w.heap.size w ((w.alloc (.cells #[.int .i64 d1,.int .i64 f1,.slice A1 ss1.length c1,.int .i64 d2,.int .i64 f2,.slice A2 ss2.length c2,.slice A3 st.length c3] 29)).alloc (.cells #[.int .i64 0,.int .i64 0,.slice none 0 0,.int .i64 0,.int .i64 0,.slice none 0 0,.slice none 0 0] 29)):=bel
 have hk1:=box_first w (.cells #[.int .i64 d1,.int .i64 f1,.slice A1 ss1.length c1,.int .i64 d2,.int .i64 f2,.slice A2 ss2.length c2,.slice A3 st.length c3] 29) (.cells #[.int .i64 0,.int .i64 0,.slice none 0 0,.int .i64 0,.int .i64 0,.slice none 0 0,.slice none 0 0] 29)
 have hk2:=box_second w (.cells #[.int .i64 d1,.int .i64 f1,.slice A1 ss1.length c1,.int .i64 d2,.int .i64 f2,.slice A2 ss2.length c2,.slice A3 st.length c3] 29) (.cells #[.int .i64 0,.int .i64 0,.slice none 0 0,.int .i64 0,.int .i64 0,.slice none 0 0,.slice none 0 0] 29)
 generalize ((w.alloc (.cells #[.int .i64 d1,.int .i64 f1,.slice A1 ss1.length c1,.int .i64 d2,.int .i64 f2,.slice A2 ss2.length c2,.slice A3 st.length c3] 29)).alloc (.cells #[.int .i64 0,.int .i64 0,.slice none 0 0,.int .i64 0,.int .i64 0,.slice none 0 0,.slice none 0 0] 29))=w0 at *
 have hzw:=hbW.size
 have hz0:=blk_lt hk1
 have hz1:=blk_lt hk2
 obtain ⟨hx0,hx1,hx2,hx3,hx4,hx5,hx6,hxl⟩:=blk7 hk1
 obtain ⟨hy0,hy1,hy2,hy3,hy4,hy5,hy6,hyl⟩:=blk7 hk2
 have g1:=h1.below (hbW.mono hB)
 have g2:=h2.below (hbW.mono hB)
 have g3:=h3.below (hbW.mono hB)
 have hB0:B≤w0.heap.size:=by omega
 have hB1:B≤w.heap.size+1:=by omega
 go_region_held3 (fun W=>(∀ b o,b<w.heap.size+1→W.cell? ⟨b,o,none⟩=(w0).cell? ⟨b,o,none⟩)∧(∀ b o,b<w.heap.size+1→W.frozen? ⟨b,o,none⟩=(w0).frozen? ⟨b,o,none⟩)∧Below (w.heap.size+1) (w0) W) (exact keep_of bel) (first|(go_at_call_of 122 (Value.agg #[.int .i64 d1,.int .i64 f1,.slice A1 ss1.length c1]);have hq:=(‹_∧_∧Below _ _ _›).2.2;refine (i_copied d1 f1 B _ _ _ ss1 _ (g1.below (hq.mono hB1)) (Nat.le_trans hB0 hq.size)).mono ?_;rintro e w1 ⟨B1,e1,rfl,ho1,hb1⟩;have hqs1:=hq.size;have hbs1:=hb1.size;(try simp at hqs1);(try simp at hbs1);(have hkk1:w1.heap[w.heap.size+1]?=some (.cells #[.int .i64 0,.int .i64 0,.slice none 0 0,.int .i64 0,.int .i64 0,.slice none 0 0,.slice none 0 0] 29):=(by first|exact blk_next hk2 hb1|exact blk_next (blk_drew hk2) hb1)))|(go_at_call_of 122 (Value.agg #[.int .i64 d2,.int .i64 f2,.slice A2 ss2.length c2]);have hq:=(‹_∧_∧Below _ _ _›).2.2;refine (i_copied d2 f2 B _ _ _ ss2 _ (g2.below (hq.mono hB1)) (Nat.le_trans hB0 hq.size)).mono ?_;rintro e w2 ⟨B2,e2,rfl,ho2,hb2⟩;have hqs2:=hq.size;have hbs2:=hb2.size;(try simp at hqs2);(try simp at hbs2);have hkk2:=blk_next hkk1 hb2)|(go_at_call 137;have hq:=(‹_∧_∧Below _ _ _›).2.2;refine (clone_step B _ _ _ st _ (g3.below (hq.mono hB1)) (Nat.le_trans hB0 hq.size)).mono ?_;rintro e w3 ⟨B3,e3,rfl,ho3,hb3⟩;have hqs3:=hq.size;have hbs3:=hb3.size;(try simp at hqs3);(try simp at hbs3);have hkk:=blk_next hkk2 hb3;have hf0:=(blk_cells hkk 0).2;have hf1:=(blk_cells hkk 1).2;have hf2:=(blk_cells hkk 2).2;have hf3:=(blk_cells hkk 3).2;have hf4:=(blk_cells hkk 4).2;have hf5:=(blk_cells hkk 5).2;have hf6:=(blk_cells hkk 6).2;obtain ⟨hv0,hv1,hv2,hv3,hv4,hv5,hv6,hvl⟩:=blk7 hkk))
 go_wp2
 have hne:∀ k,(Value.slice B1 ss1.length e1).ownBlock=some k→(Value.slice B2 ss2.length e2).ownBlock≠some k:=by
  intro k hk hk2
  have a:=(ho1.lt k hk).2
  have b:=(ho2.lt k hk2).1
  omega
 have hb01:Below w0.heap.size w0 w1:=by first|exact hb1|exact (Below.refl _ _).drew.trans hb1
 have hbw3:Below w.heap.size w w3:=hbW.trans (((hb01.mono hzw).trans (hb2.mono (by omega))).trans (hb3.mono (by omega)))
 have hzd:w0.drew.heap.size=w0.heap.size:=rfl
 clear hbW hb01
 refine bodyPost_ret (v:=.agg #[.int .i64 d1,.int .i64 f1,.slice B1 ss1.length e1,.int .i64 d2,.int .i64 f2,.slice B2 ss2.length e2,.slice B3 st.length e3]) (by simp [results,Tryz.results84,go_sem, *]) rfl ?_
 have HBW3:=hide hbw3
 clear hbw3
 refine ⟨B1,e1,B2,e2,B3,e3,rfl,⟨own_up ho1 upr (by first|exact Nat.le_refl _|(simp;done)|omega|(simp;omega)|exact (‹_∧_∧Below _ _ _›).2.2.size),own_up ho2 upr (by first|exact Nat.le_refl _|(simp;done)|omega|(simp;omega)|exact (‹_∧_∧Below _ _ _›).2.2.size),own_up ho3 upr (by first|exact Nat.le_refl _|(simp;done)|omega|(simp;omega)|exact (‹_∧_∧Below _ _ _›).2.2.size),hne⟩,?_⟩
 have hbw3:=unhide HBW3
 clear hb1 hb2 hb3
 exact bel
theorem u_draftCopied (d1 f1:Int) (ss1:List ByteArray) (d2 f2:Int) (ss2:List ByteArray) (st:List PStep) (B:Nat) (A1 A2 A3:Option Addr) (c1 c2 c3:Nat) (w:World) (hS:RdDraft w B A1 A2 A3 ⟨d1,f1,ss1,d2,f2,ss2,st⟩) (hB:B≤w.heap.size) :
  Calls Tryz.prog 84 #[.agg #[.int .i64 d1,.int .i64 f1,.slice A1 ss1.length c1,.int .i64 d2,.int .i64 f2,.slice A2 ss2.length c2,.slice A3 st.length c3]] w (UDraft d1 f1 ss1 d2 f2 ss2 st w) :=
 (i_draftCopied d1 f1 ss1 d2 f2 ss2 st B A1 A2 A3 c1 c2 c3 w hS hB).mono fun _ _ h=>by
  obtain ⟨B1,e1,B2,e2,B3,e3,he,ho,hb⟩:=h
  exact ⟨B1,e1,B2,e2,B3,e3,he,OwnD.of ho (Nat.le_refl _),hb⟩
set_option maxHeartbeats 6400000 in
theorem u_l37Copy (d1 f1:Int) (ss1:List ByteArray) (d2 f2:Int) (ss2:List ByteArray) (st:List PStep) (B:Nat) (A1 A2 A3:Option Addr) (c1 c2 c3:Nat) (w:World) (hS:RdDraft w B A1 A2 A3 ⟨d1,f1,ss1,d2,f2,ss2,st⟩) (hB:B≤w.heap.size) :
  Calls Tryz.prog 172 #[.agg #[.int .i64 d1,.int .i64 f1,.slice A1 ss1.length c1,.int .i64 d2,.int .i64 f2,.slice A2 ss2.length c2,.slice A3 st.length c3]] w (UDraft d1 f1 ss1 d2 f2 ss2 st w):=by
 have h1:Strs w B A1 ss1.length ss1:=hS.s1
 have h2:Strs w B A2 ss2.length ss2:=hS.s2
 have h3:Steps w B A3 st.length st:=hS.st
 have hn1:=h1.nb
 have hn2:=h2.nb
 have hn3:=h3.nb
 have hone:=stepCells_one st
 have HONE:=hide hone
 clear hone
 obtain ⟨i0,hi0,hz0,hz1,hz2⟩:=info_parts info_stepCells
 go_enter Tryz.func172,Tryz.ntmps172
 go_wp2
 have hbW:Below w.heap.size w ((w.alloc (.cells #[.int .i64 d1,.int .i64 f1,.slice A1 ss1.length c1,.int .i64 d2,.int .i64 f2,.slice A2 ss2.length c2,.slice A3 st.length c3] 29)).alloc (.cells #[.int .i64 0,.int .i64 0,.slice none 0 0,.int .i64 0,.int .i64 0,.slice none 0 0,.slice none 0 0] 29)):=bel
 have hk1:=box_first w (.cells #[.int .i64 d1,.int .i64 f1,.slice A1 ss1.length c1,.int .i64 d2,.int .i64 f2,.slice A2 ss2.length c2,.slice A3 st.length c3] 29) (.cells #[.int .i64 0,.int .i64 0,.slice none 0 0,.int .i64 0,.int .i64 0,.slice none 0 0,.slice none 0 0] 29)
 have hk2:=box_second w (.cells #[.int .i64 d1,.int .i64 f1,.slice A1 ss1.length c1,.int .i64 d2,.int .i64 f2,.slice A2 ss2.length c2,.slice A3 st.length c3] 29) (.cells #[.int .i64 0,.int .i64 0,.slice none 0 0,.int .i64 0,.int .i64 0,.slice none 0 0,.slice none 0 0] 29)
 generalize ((w.alloc (.cells #[.int .i64 d1,.int .i64 f1,.slice A1 ss1.length c1,.int .i64 d2,.int .i64 f2,.slice A2 ss2.length c2,.slice A3 st.length c3] 29)).alloc (.cells #[.int .i64 0,.int .i64 0,.slice none 0 0,.int .i64 0,.int .i64 0,.slice none 0 0,.slice none 0 0] 29))=w0 at *
 have hzw:=hbW.size
 have hz0_:=blk_lt hk1
 have hz1_:=blk_lt hk2
 obtain ⟨hx0,hx1,hx2,hx3,hx4,hx5,hx6,hxl⟩:=blk7 hk1
 have g1:=h1.below (hbW.mono hB)
 have g2:=h2.below (hbW.mono hB)
 have g3:=h3.below (hbW.mono hB)
 have hB0:B≤w0.heap.size:=by omega
 have hB1:B≤w.heap.size+1:=by omega
 have hz1q:w.heap.size+1≤w0.heap.size:=by omega
 go_region_held3 (fun W=>(∀ b o,b<w.heap.size+1→W.cell? ⟨b,o,none⟩=(w0).cell? ⟨b,o,none⟩)∧(∀ b o,b<w.heap.size+1→W.frozen? ⟨b,o,none⟩=(w0).frozen? ⟨b,o,none⟩)∧Below (w.heap.size+1) (w0) W) (exact keep_of bel) (first|(go_at_call_of 181 (Value.agg #[.int .i64 d1,.int .i64 f1,.slice A1 ss1.length c1]);have hq:=(‹_∧_∧Below _ _ _›).2.2;refine (s_l05Copy d1 f1 B _ _ _ ss1 _ (g1.below (hq.mono hB1)) (Nat.le_trans hB0 hq.size)).mono ?_;rintro e w1 ⟨B1,e1,rfl,hor,hb1⟩;(have ho1:=own_base (base':=w0.heap.size) hor (by first|exact hq.size|exact Nat.le_refl _));have hqs1:=hq.size;have hbs1:=hb1.size;(try simp at hqs1);(try simp at hbs1);(have hkk1:w1.heap[w.heap.size+1]?=some (.cells #[.int .i64 0,.int .i64 0,.slice none 0 0,.int .i64 0,.int .i64 0,.slice none 0 0,.slice none 0 0] 29):=(by first|exact blk_next hk2 hb1|exact blk_next (blk_drew hk2) hb1|exact blk_next (blk_alloc hk2 _) hb1|exact blk_next (blk_drew (blk_alloc hk2 _)) hb1));(have hlt1:∀ k,(Value.slice B1 ss1.length e1).ownBlock=some k→k<w1.heap.size:=fun k hk=>(ho1.lt k hk).2))|(go_at_call_of 181 (Value.agg #[.int .i64 d2,.int .i64 f2,.slice A2 ss2.length c2]);have hq:=(‹_∧_∧Below _ _ _›).2.2;refine (s_l05Copy d2 f2 B _ _ _ ss2 _ (g2.below (hq.mono hB1)) (Nat.le_trans hB0 hq.size)).mono ?_;rintro e w2 ⟨B2,e2,rfl,hor,hb2⟩;(have ho2:=own_base (base':=w0.heap.size) hor (by first|exact hq.size|exact Nat.le_refl _));have hqs2:=hq.size;have hbs2:=hb2.size;(try simp at hqs2);(try simp at hbs2);(have hkk2:w2.heap[w.heap.size+1]?=some (.cells #[.int .i64 0,.int .i64 0,.slice none 0 0,.int .i64 0,.int .i64 0,.slice none 0 0,.slice none 0 0] 29):=(by first|exact blk_next hkk1 hb2|exact blk_next (blk_drew hkk1) hb2|exact blk_next (blk_alloc hkk1 _) hb2|exact blk_next (blk_drew (blk_alloc hkk1 _)) hb2));(have hne:∀ k,(Value.slice B1 ss1.length e1).ownBlock=some k→(Value.slice B2 ss2.length e2).ownBlock≠some k:=(by intro k hk hk2;have a:=hlt1 k hk;have b:=(hor.lt k hk2).1;have b2:=hq.size;(try simp at b);omega)))|((have hb2X:Below w1.heap.size w1 w2:=(by first|exact hb2|exact ⟨hb2.os,hb2.tape,hb2.output,hb2.size,hb2.block⟩));(have hoE:World.ownsRow w2 w0.heap.size 167 7 (.slice (some ⟨w0.heap.size,0,none⟩) 0 0) 0 []:=own_below (own_below (made_at w0 _ _ rfl (by omega)) (show Below (w0.alloc (.cells #[] 167)).heap.size (w0.alloc (.cells #[] 167)) w1 from (by first|exact hb1|exact ⟨hb1.os,hb1.tape,hb1.output,hb1.size,hb1.block⟩))) hb2X);refine step_append_any _ rfl (.tmp 9) (.tmp 11) _ rfl w0.heap.size 167 i0 _ 7 72 Tryz.underlying27 hi0 hz0 hz1 hz2 rfl (by omega) (.slice (some ⟨w0.heap.size,0,none⟩) 0 0) 0 [] rfl ?_ B A3 st.length c3 (st.flatMap stepCells) rfl ?_ (unhide HONE) ?_ ?_ ?_ ?_;(first|exact hoE|exact ⟨hoE.1,hoE.2⟩);(have hq:=(‹_∧_∧Below _ _ _›).2.2;exact g3.rd.below (hq.mono hB1));(unfold maxLen;omega);omega;(have hq:=(‹_∧_∧Below _ _ _›).2.2;exact hq.size);intro v3 w3 ho3 hg3 hat3;(have hz3:=hg3.size;(try simp at hz3));have hq3:=(‹_∧_∧Below _ _ _›).2.2;(have hbw3:=grown_below hg3 (B:=w.heap.size+1) (fun k hk=>Nat.le_trans hz1q (hoE.lt k hk).1) (Nat.le_trans hz1q hq3.size));(have hbq3:=hq3.trans hbw3);(have hg3X:World.grownBy w2 w3 (Value.ownBlock (.slice (some ⟨w0.heap.size,0,none⟩) 0 0)):=(by first|exact hg3|exact ⟨hg3.os,hg3.tape,hg3.output,hg3.size,hg3.block⟩));have hkW:=hkk2;(have hkk3:=blk_markedk hkW hg3X hoE (by decide));(have hoo1:=own_grown (own_below ho1 hb2X) hg3X (fun k hk he=>own_ne_type (own_below ho1 hb2X) hoE (by decide) k hk he));(have hoo2:=own_grown ho2 hg3X (fun k hk he=>own_ne_type ho2 hoE (by decide) k hk he));clear hg3X hg3 hkW hoE hb2X hat3 hbw3;obtain ⟨hv0,hv1,hv2,hv3,hv4,hv5,hv6,hvl⟩:=blk7 hkk3;have hf0:=(blk_cells hkk3 0).2;have hf1:=(blk_cells hkk3 1).2;have hf2:=(blk_cells hkk3 2).2;have hf3:=(blk_cells hkk3 3).2;have hf4:=(blk_cells hkk3 4).2;have hf5:=(blk_cells hkk3 5).2;have hf6:=(blk_cells hkk3 6).2;rw [Nat.zero_add,List.nil_append] at ho3;obtain ⟨B3,e3,rfl⟩:=own_slice ho3)|((have hb2X:Below (w1.alloc (.cells #[] 167)).heap.size (w1.alloc (.cells #[] 167)) w2:=(by first|exact hb2|exact ⟨hb2.os,hb2.tape,hb2.output,hb2.size,hb2.block⟩));(have hoE:World.ownsRow w2 w0.heap.size 167 7 (.slice (some ⟨w1.heap.size,0,none⟩) 0 0) 0 []:=own_below (made_at w1 _ _ rfl (by omega)) (show Below (w1.alloc (.cells #[] 167)).heap.size (w1.alloc (.cells #[] 167)) w2 from hb2X));refine step_append_any _ rfl (.tmp 9) (.tmp 11) _ rfl w0.heap.size 167 i0 _ 7 72 Tryz.underlying27 hi0 hz0 hz1 hz2 rfl (by omega) (.slice (some ⟨w1.heap.size,0,none⟩) 0 0) 0 [] rfl ?_ B A3 st.length c3 (st.flatMap stepCells) rfl ?_ (unhide HONE) ?_ ?_ ?_ ?_;(first|exact hoE|exact ⟨hoE.1,hoE.2⟩);(have hq:=(‹_∧_∧Below _ _ _›).2.2;exact g3.rd.below (hq.mono hB1));(unfold maxLen;omega);omega;(have hq:=(‹_∧_∧Below _ _ _›).2.2;exact hq.size);intro v3 w3 ho3 hg3 hat3;(have hz3:=hg3.size;(try simp at hz3));have hq3:=(‹_∧_∧Below _ _ _›).2.2;(have hbw3:=grown_below hg3 (B:=w.heap.size+1) (fun k hk=>Nat.le_trans hz1q (hoE.lt k hk).1) (Nat.le_trans hz1q hq3.size));(have hbq3:=hq3.trans hbw3);(have hg3X:World.grownBy w2 w3 (Value.ownBlock (.slice (some ⟨w1.heap.size,0,none⟩) 0 0)):=(by first|exact hg3|exact ⟨hg3.os,hg3.tape,hg3.output,hg3.size,hg3.block⟩));have hkW:=hkk2;(have hkk3:=blk_markedk hkW hg3X hoE (by decide));(have hoo1:=own_grown (own_below (ho1.alloc (.cells #[] 167)) (show Below (w1.alloc (.cells #[] 167)).heap.size (w1.alloc (.cells #[] 167)) w2 from hb2X)) hg3X (fun k hk he=>own_ne_type (own_below (ho1.alloc (.cells #[] 167)) (show Below (w1.alloc (.cells #[] 167)).heap.size (w1.alloc (.cells #[] 167)) w2 from hb2X)) hoE (by decide) k hk he));(have hoo2:=own_grown ho2 hg3X (fun k hk he=>own_ne_type ho2 hoE (by decide) k hk he));clear hg3X hg3 hkW hoE hb2X hat3 hbw3;obtain ⟨hv0,hv1,hv2,hv3,hv4,hv5,hv6,hvl⟩:=blk7 hkk3;have hf0:=(blk_cells hkk3 0).2;have hf1:=(blk_cells hkk3 1).2;have hf2:=(blk_cells hkk3 2).2;have hf3:=(blk_cells hkk3 3).2;have hf4:=(blk_cells hkk3 4).2;have hf5:=(blk_cells hkk3 5).2;have hf6:=(blk_cells hkk3 6).2;rw [Nat.zero_add,List.nil_append] at ho3;obtain ⟨B3,e3,rfl⟩:=own_slice ho3)|((have hb2X:Below w1.heap.size w1 w2:=(by first|exact hb2|exact ⟨hb2.os,hb2.tape,hb2.output,hb2.size,hb2.block⟩));(have hoE:World.ownsRow (w2.alloc (.cells #[] 167)) w0.heap.size 167 7 (.slice (some ⟨w2.heap.size,0,none⟩) 0 0) 0 []:=made_at w2 _ _ rfl (by omega));refine step_append_any _ rfl (.tmp 9) (.tmp 11) _ rfl w0.heap.size 167 i0 _ 7 72 Tryz.underlying27 hi0 hz0 hz1 hz2 rfl (by omega) (.slice (some ⟨w2.heap.size,0,none⟩) 0 0) 0 [] rfl ?_ B A3 st.length c3 (st.flatMap stepCells) rfl ?_ (unhide HONE) ?_ ?_ ?_ ?_;(first|exact hoE|exact ⟨hoE.1,hoE.2⟩);(have hq:=(‹_∧_∧Below _ _ _›).2.2;exact g3.rd.below (hq.mono hB1));(unfold maxLen;omega);omega;(have hq:=(‹_∧_∧Below _ _ _›).2.2;exact hq.size);intro v3 w3 ho3 hg3 hat3;(have hz3:=hg3.size;(try simp at hz3));have hq3:=(‹_∧_∧Below _ _ _›).2.2;(have hbw3:=grown_below hg3 (B:=w.heap.size+1) (fun k hk=>Nat.le_trans hz1q (hoE.lt k hk).1) (Nat.le_trans hz1q hq3.size));(have hbq3:=hq3.trans hbw3);(have hg3X:World.grownBy (w2.alloc (.cells #[] 167)) w3 (Value.ownBlock (.slice (some ⟨w2.heap.size,0,none⟩) 0 0)):=(by first|exact hg3|exact ⟨hg3.os,hg3.tape,hg3.output,hg3.size,hg3.block⟩));have hkW:=(blk_alloc hkk2 (.cells #[] 167));(have hkk3:=blk_markedk hkW hg3X hoE (by decide));(have hoo1:=own_grown ((own_below ho1 hb2X).alloc (.cells #[] 167)) hg3X (fun k hk he=>own_ne_type ((own_below ho1 hb2X).alloc (.cells #[] 167)) hoE (by decide) k hk he));(have hoo2:=own_grown (ho2.alloc (.cells #[] 167)) hg3X (fun k hk he=>own_ne_type (ho2.alloc (.cells #[] 167)) hoE (by decide) k hk he));clear hg3X hg3 hkW hoE hb2X hat3 hbw3;obtain ⟨hv0,hv1,hv2,hv3,hv4,hv5,hv6,hvl⟩:=blk7 hkk3;have hf0:=(blk_cells hkk3 0).2;have hf1:=(blk_cells hkk3 1).2;have hf2:=(blk_cells hkk3 2).2;have hf3:=(blk_cells hkk3 3).2;have hf4:=(blk_cells hkk3 4).2;have hf5:=(blk_cells hkk3 5).2;have hf6:=(blk_cells hkk3 6).2;rw [Nat.zero_add,List.nil_append] at ho3;obtain ⟨B3,e3,rfl⟩:=own_slice ho3))
 all_goals (
  go_wp2
  have hzf:=hbq3.size
  have hbw9:Below w.heap.size w w3:=hbW.trans (hbq3.mono (by omega))
  refine bodyPost_ret (v:=.agg #[.int .i64 d1,.int .i64 f1,.slice B1 ss1.length e1,.int .i64 d2,.int .i64 f2,.slice B2 ss2.length e2,.slice B3 st.length e3]) (by simp [results,Tryz.results172,go_sem, *]) rfl ?_
  have hbx:=boxAt_of hkk3
  have HBW9:=hide hbw9
  clear hbw9
  refine ⟨B1,e1,B2,e2,B3,e3,rfl,⟨(OwnS.of (own_base hoo1 hzw) (Nat.le_refl _)).boxy (by repeat (first|(with_reducible exact Boxy.refl _)|(with_reducible refine Boxy.drew ?_)|(with_reducible refine Boxy.drewN ?_ _)|(with_reducible refine Boxy.alloc ?_ _)|((with_reducible refine Boxy.setCell ?_ ?hbs _);(case hbs=>first|(with_reducible exact .inl (by assumption))|exact .inl (by assumption)|exact .inr (by simp)|exact .inr (by simp;omega)))))|>.wide (Nat.le_refl _) (by simp),(OwnS.of (own_base hoo2 hzw) (Nat.le_refl _)).boxy (by repeat (first|(with_reducible exact Boxy.refl _)|(with_reducible refine Boxy.drew ?_)|(with_reducible refine Boxy.drewN ?_ _)|(with_reducible refine Boxy.alloc ?_ _)|((with_reducible refine Boxy.setCell ?_ ?hbs _);(case hbs=>first|(with_reducible exact .inl (by assumption))|exact .inl (by assumption)|exact .inr (by simp)|exact .inr (by simp;omega)))))|>.wide (Nat.le_refl _) (by simp),(OwnSt.of (own_base ho3 hzw) (Nat.le_refl _)).boxy (by repeat (first|(with_reducible exact Boxy.refl _)|(with_reducible refine Boxy.drew ?_)|(with_reducible refine Boxy.drewN ?_ _)|(with_reducible refine Boxy.alloc ?_ _)|((with_reducible refine Boxy.setCell ?_ ?hbs _);(case hbs=>first|(with_reducible exact .inl (by assumption))|exact .inl (by assumption)|exact .inr (by simp)|exact .inr (by simp;omega)))))|>.wide (Nat.le_refl _) (by simp),hne⟩,?_⟩
  have hbw9:=unhide HBW9
  clear hb1 hb2
  exact bel)
theorem strip_letter {l:List UInt8} (h:cnt 100 l+cnt 102 l=l.length):∀ x∈l,x=100∨x=102:=by
 induction l with
 |nil=>intro x hx;cases hx
 |cons a t ih =>
  have ht:=cnt_two t
  have e1:cnt 100 (a :: t)=cnt 100 t+(if a=100 then 1 else 0):=by unfold cnt;rw [List.count_cons];by_cases q:a=100 <;> simp [q]
  have e2:cnt 102 (a :: t)=cnt 102 t+(if a=102 then 1 else 0):=by unfold cnt;rw [List.count_cons];by_cases q:a=102 <;> simp [q]
  rw [e1,e2,List.length_cons] at h
  have ha:a=100∨a=102:=by
   by_cases q1:a=100
   ·exact .inl q1
   ·by_cases q2:a=102
    ·exact .inr q2
    ·rw [if_neg q1,if_neg q2] at h;omega
  have hne:¬((100:UInt8)=102):=by decide
  intro x hx
  rcases List.mem_cons.1 hx with rfl|hx
  ·exact ha
  ·refine ih ?_ x hx
   rcases ha with rfl|rfl
   ·rw [if_pos rfl,if_neg hne] at h;omega
   ·rw [if_neg (Ne.symm hne),if_pos rfl] at h;omega
theorem cnt_swap (c:UInt8) (p q:List UInt8) (a b:UInt8):cnt c (p++[b,a]++q)=cnt c (p++[a,b]++q):=by
 unfold cnt
 simp only [List.count_append,List.count_cons,List.count_nil]
 omega
theorem split_at {l:List UInt8} {K:Nat} (h:K+1<l.length):l=l.take K++[l[K],l[K+1]]++l.drop (K+2):=by
 have h1:l.drop K=l[K] :: l.drop (K+1):=List.drop_eq_getElem_cons (by omega)
 have h2:l.drop (K+1)=l[K+1] :: l.drop (K+2):=List.drop_eq_getElem_cons (by omega)
 conv=>lhs;rw [← List.take_append_drop K l,h1,h2]
 simp
theorem swapL_split (p q:List UInt8) (a b:UInt8) (K:Nat) (hp:p.length=K):swapL (p++[a,b]++q) (K+1)=p++[b,a]++q:=by
 subst hp
 unfold swapL
 have h1:List.drop (p.length+1) p=[]:=List.drop_eq_nil_of_le (by omega)
 have h2:List.drop (p.length+1+1) p=[]:=List.drop_eq_nil_of_le (by omega)
 have h3:p.length+1+1 - p.length=2:=by omega
 simp [List.drop_append,h1,h2,h3]
theorem swap_data {c:UInt8} {s:ByteArray} {k:Int} (h:cornerB c s k=true):∃ (p q:List UInt8) (a b:UInt8),s.data.toList=p++[a,b]++q∧k=((p.length+1:Nat):Int)∧(swapB s k).data.toList=p++[b,a]++q∧a=c∧b≠a:=by
 obtain ⟨L,K,rfl,hKL,hL⟩:=cornerB_pos h
 subst hKL
 have hl:s.data.toList.length=s.size:=by simp
 have hsp:=split_at (l:=s.data.toList) (K:=K) (by omega)
 have hpl:(s.data.toList.take K).length=K:=by rw [List.length_take];omega
 refine ⟨s.data.toList.take K,s.data.toList.drop (K+2),s.data.toList[K]'(by omega),s.data.toList[K+1]'(by omega),hsp,by rw [hpl],?_,?_,?_⟩
 ·unfold swapB
  simp only [Int.toNat_natCast]
  have:=swapL_split (s.data.toList.take K) (s.data.toList.drop (K+2)) (s.data.toList[K]'(by omega)) (s.data.toList[K+1]'(by omega)) K hpl
  rw [← hsp] at this
  exact this
 ·unfold cornerB at h
  simp only [Bool.and_eq_true,beq_iff_eq] at h
  have h2:=h.2
  rw [show ((K+1:Nat):Int) - 1=(K:Int) by omega,chr_get s K (by omega)] at h2
  exact h2
 ·unfold cornerB cornerAny at h
  simp only [Bool.and_eq_true] at h
  have h2:=h.1.2.2
  rw [show ((K+1:Nat):Int) - 1=(K:Int) by omega,chr_get s K (by omega),chr_get s (K+1) (by omega)] at h2
  have h3:s[K]≠s[K+1]:=by simpa using h2
  exact fun e=>h3 e.symm
theorem strip_cnt {l:List UInt8} (h:isStrip l=true):cnt 100 l+cnt 102 l=l.length:=by
 unfold isStrip at h
 simp only [Bool.and_eq_true,beq_iff_eq] at h
 exact h.1
theorem isStrip_swap (p q:List UInt8) (a b:UInt8):isStrip (p++[b,a]++q)=isStrip (p++[a,b]++q):=by
 unfold isStrip
 rw [cnt_swap 100,cnt_swap 102]
 simp
theorem stripOf_swap {c:UInt8} {s:ByteArray} {k:Int} (h:cornerB c s k=true) (d f:Int):stripOf d f (swapB s k)=stripOf d f s:=by
 obtain ⟨p,q,a,b,h1,_,h2,_⟩:=swap_data h
 unfold stripOf downOf forwardOf
 rw [h1,h2,isStrip_swap,cnt_swap 100,cnt_swap 102]
def otherC (c:UInt8):UInt8:=if c=100 then 102 else 100
theorem corner_back {c:UInt8} (hc:c=100∨c=102) {s:ByteArray} {k:Int} (h:cornerB c s k=true):cornerB (otherC c) (swapB s k) k=true:=by
 obtain ⟨p,q,a,b,h1,hk,h2,ha,hb⟩:=swap_data h
 have hs:isStrip s.data.toList=true:=by
  unfold cornerB at h
  simp only [Bool.and_eq_true] at h
  exact h.1.1
 have hl:=strip_letter (strip_cnt hs)
 have hbl:b=100∨b=102:=hl b (by rw [h1];simp)
 have hbo:b=otherC c:=by
  unfold otherC
  rcases hc with rfl|rfl
  ·rw [if_pos rfl]
   rcases hbl with h3|h3
   ·exact absurd (h3.trans ha.symm) hb
   ·exact h3
  ·rw [if_neg (by decide)]
   rcases hbl with h3|h3
   ·exact h3
   ·exact absurd (h3.trans ha.symm) hb
 have hsz:(swapB s k).size=p.length+(2+q.length):=by
  have:(swapB s k).data.toList.length=(swapB s k).size:=by simp
  rw [← this,h2];simp;omega
 have hc1:chr (swapB s k) (k - 1)=b:=by
  unfold chr
  rw [h2,hk,show (((p.length+1:Nat):Int) - 1).toNat=p.length by omega]
  simp
 have hc2:chr (swapB s k) k=a:=by
  unfold chr
  rw [h2,hk,Int.toNat_natCast]
  simp
 unfold cornerB cornerAny
 rw [h2,isStrip_swap,← h1,hs,hc1,hc2,hsz]
 have hin:inB k 1 (((p.length+(2+q.length):Nat):Int) - 1)=true:=inB_iff'.2 ⟨by omega,by omega⟩
 rw [hin]
 have hb2:¬otherC c=a:=fun e=>hb (hbo.trans e)
 simp [hbo,hb2]
theorem cardOk_flips {c:UInt8} {d f at_:Int} {ss:List ByteArray} {F m:Nat} (h:cardOk d f ss=true) (ha:allC c at_ ss F m=true):cardOk d f (flips at_ ss F m)=true:=by
 unfold cardOk at *
 simp only [Bool.and_eq_true] at *
 rw [flips_len]
 refine ⟨h.1,h.2.1,?_⟩
 rw [List.all_eq_true] at *
 intro x hx
 obtain ⟨i,hi,rfl⟩:=List.getElem_of_mem hx
 have hi2:i<ss.length:=by rw [flips_len] at hi;exact hi
 simp only [flips,List.getElem_mapIdx]
 split
 ·rename_i hr
  have hcr:cornerB c ss[i] at_=true:=by
   unfold allC at ha
   rw [List.all_eq_true] at ha
   refine ha _ ?_
   rw [List.mem_take_iff_getElem]
   exact ⟨i - F,by rw [List.length_drop];omega,by simp [show F+(i - F)=i by omega]⟩
  rw [stripOf_swap hcr]
  exact h.2.2 _ (List.getElem_mem hi2)
 ·exact h.2.2 _ (List.getElem_mem hi2)
theorem allC_flips {c:UInt8} (hc:c=100∨c=102) {at_:Int} {ss:List ByteArray} {F m:Nat} (ha:allC c at_ ss F m=true):allC (otherC c) at_ (flips at_ ss F m) F m=true:=by
 unfold allC at *
 rw [List.all_eq_true] at *
 intro x hx
 rw [List.mem_take_iff_getElem] at hx
 obtain ⟨i,hi,rfl⟩:=hx
 rw [List.length_drop,flips_len] at hi
 have hcr:cornerB c (ss[F+i]'(by omega)) at_=true:=by
  refine ha _ ?_
  rw [List.mem_take_iff_getElem]
  exact ⟨i,by rw [List.length_drop];omega,by simp⟩
 simp only [List.getElem_drop,flips,List.getElem_mapIdx]
 rw [if_pos (by omega)]
 exact corner_back hc hcr
theorem boxRes_back {c:UInt8} (hc:c=100∨c=102) {d f:Int} {ss sn:List ByteArray} {F L T:Int} (h:boxRes c d f ss F L T=(sn,true)):(boxRes (otherC c) d f sn F L T).2=true:=by
 unfold boxRes at h
 split at h
 ·rename_i h1
  injection h with h2 _
  subst h2
  have h3:=h1.1
  unfold boxOk at h3
  simp only [Bool.and_eq_true] at h3
  have hb:boxOk d f (flips T ss F.toNat (L.toNat+1 - F.toNat)) (flips T ss F.toNat (L.toNat+1 - F.toNat)).length F L=true:=by
   unfold boxOk
   rw [cardOk_flips h3.1.1 h1.2,flips_len,h3.1.2]
   simpa using h3.2
  unfold boxRes
  rw [if_pos ⟨hb,allC_flips hc h1.2⟩]
 ·injection h with _ h2;cases h2
theorem exch_back {d f:Int} {ss sn:List ByteArray} {k:Int} {b a:ByteArray} (h:exchRes d f ss k b a=(sn,true)):(exchRes d f sn k a b).2=true:=by
 unfold exchRes at h
 split at h
 ·rename_i h1
  simp only [Bool.and_eq_true,decide_eq_true_eq] at h1
  unfold putAt at h
  split at h
  ·rename_i h2
   simp only [Bool.and_eq_true] at h2
   injection h with h3 _
   subst h3
   have hk:=inB_iff'.1 h1.1.2
   have hkn:k.toNat<ss.length:=by omega
   have hb:ss[k.toNat]=b:=by
    have:=h1.2
    simpa [List.getD,List.getElem?_eq_getElem hkn] using this
   have hback:(ss.set k.toNat a).set k.toNat b=ss:=by
    rw [List.set_set,← hb];exact List.set_getElem_self hkn
   unfold exchRes putAt
   rw [hback,h2.2,h1.1.1,List.length_set,h1.1.2]
   simp [List.getD,hkn]
  ·injection h with _ h2;cases h2
 ·injection h with _ h2;cases h2
theorem step_back {d f:Int} {ss sn:List ByteArray} {K F L T I:Int} {b a:ByteArray} (h:stepRes true d f ss K F L T I b a=(sn,true)):(stepRes false d f sn K F L T I b a).2=true:=by
 unfold stepRes at *
 split at h
 ·injection h with _ h2;cases h2
 ·rename_i hp
  rw [if_neg hp]
  split at h
  ·rename_i hk
   rw [if_pos hk]
   have:=boxRes_back (c:=100) (.inl rfl) (by simpa using h)
   simpa [otherC] using this
  ·rename_i hk
   rw [if_neg hk]
   split at h
   ·rename_i hk2
    rw [if_pos hk2]
    have:=boxRes_back (c:=102) (.inr rfl) (by simpa using h)
    simpa [otherC] using this
   ·rename_i hk2
    rw [if_neg hk2]
    exact exch_back (by simpa using h)
theorem runSteps_snoc {d f:Int} (l:List PStep) (s:PStep):∀ (ss sn:List ByteArray),runSteps d f (l++[s]) ss=some sn→∃ sp,stepRes true d f sp s.K s.F s.L s.T s.I s.b s.a=(sn,true):=by
 induction l with
 |nil =>
  intro ss sn h
  simp only [List.nil_append,runSteps] at h
  split at h
  ·rename_i h2
   injection h with h
   exact ⟨ss,Prod.ext h h2⟩
  ·cases h
 |cons x l ih =>
  intro ss sn h
  simp only [List.cons_append,runSteps] at h
  split at h
  ·exact ih _ _ h
  ·cases h
theorem undo_ok {D:PDraft} {l:List PStep} {s:PStep} (hl:D.st=l++[s]) (h:draftOk D=true):(stepRes false D.d2 D.f2 D.ss2 s.K s.F s.L s.T s.I s.b s.a).2=true:=by
 unfold draftOk at h
 simp only [Bool.and_eq_true] at h
 have h2:=h.2
 split at h2
 ·rename_i sn hr
  rw [hl] at hr
  obtain ⟨sp,hs⟩:=runSteps_snoc _ _ _ _ hr
  unfold sameCard at h2
  simp only [Bool.and_eq_true,beq_iff_eq] at h2
  have h3:sn=D.ss2:=by have:=h2.2.2;unfold eqSS at this;simpa using this
  rw [← h2.1,← h2.2.1,← h3]
  exact step_back hs
 ·cases h2
theorem reads_new (W:World) (cs:Array Value) (t:TypeId) (n size:Nat) (h:cs.size=n * size):Reads (W.alloc (.cells cs t)) (W.heap.size+1) size (some ⟨W.heap.size,0,none⟩) n cs.toList :=
 ⟨by simpa using h,fun _=>⟨_,rfl,by simp,fun j u hj=>World.news_of_block (blk_new W (.cells cs t)) j u hj⟩⟩
theorem stepCells_one1 (s:PStep):∀ u∈stepCells s,u.oneCell'=true:=by
 intro u h
 simp [stepCells] at h
 rcases h with rfl|rfl|rfl|rfl|rfl|rfl|rfl <;> rfl
def doRes (D:PDraft) (s:PStep):PDraft×Bool :=
 if (draftOk D=true∧D.st.length≠40)∧(stepRes true D.d2 D.f2 D.ss2 s.K s.F s.L s.T s.I s.b s.a).2=true then (⟨D.d1,D.f1,D.ss1,D.d2,D.f2,(stepRes true D.d2 D.f2 D.ss2 s.K s.F s.L s.T s.I s.b s.a).1,D.st++[s]⟩,true) else (D,false)
theorem draftOk_st {D:PDraft} (h:draftOk D=true):D.st.length≤40:=by
 rcases Nat.lt_or_ge 40 D.st.length with h1|h1
 ·rw [draftOk_no2 (by omega)] at h;cases h
 ·exact h1
theorem doRes_ok (D:PDraft) (s:PStep) (h:OkDraft D 1048576) (hs:s.b.size≤16777216∧s.a.size≤16777216):OkDraft (doRes D s).1 1048576:=by
 unfold doRes
 split
 ·rename_i hc
  have h40:=draftOk_st hc.1.1
  have h2:=stepRes_ok true D.d2 D.f2 D.ss2 s.K s.F s.L s.T s.I s.b s.a 1048576 h.l2 (by omega) h.z2 hs.1 hs.2
  refine ⟨h.l1,h2.1,by simp;omega,h.z1,h2.2,fun x hx=>?_⟩
  rcases List.mem_append.1 hx with hx|hx
  ·exact h.z3 x hx
  ·rw [List.mem_singleton.1 hx];exact hs
 ·exact h
theorem own_prefixk {w:World} {base n c m size:Nat} {e:TypeId} {a:Addr} {xs:List Value} (h:w.ownsRow base e size (.slice (some a) n c) n xs) (hm:m≤n) :
  w.ownsRow base e size (.slice (some a) m c) m (xs.take (m * size)):=by
 have hx:=h.1
 have hmn:m * size≤n * size:=Nat.mul_le_mul_right _ hm
 refine ⟨by rw [List.length_take];omega,?_⟩
 rcases h.2 with ⟨hv,hn⟩|⟨g,cap,cur,hv,hb,hg,hnc,hcm,hcs,ht⟩
 ·injection hv with e1;cases e1
 ·injection hv with e1 e2 e3
  subst e3
  refine .inr ⟨g,c,cur,by rw [e1],hb,hg,by omega,hcm,hcs,?_⟩
  rw [← ht,List.take_take]
  congr 1
  omega
theorem own_capk {w:World} {base n c size:Nat} {e:TypeId} {A:Option Addr} {xs:List Value} (h:w.ownsRow base e size (.slice A n c) n xs):n≤c∧c≤9223372036854775807:=by
 rcases h.2 with ⟨hv,h0⟩|⟨g',cap,cur,hv,_,_,h1,h2,_⟩
 ·injection hv with _ _ e3;omega
 ·injection hv with _ _ e3;subst e3;unfold maxLen at h2;exact ⟨h1,by omega⟩
def undoRes (D:PDraft):PDraft×Bool :=
 if draftOk D=true then match D.st.getLast? with|some s=>(⟨D.d1,D.f1,D.ss1,D.d2,D.f2,(stepRes false D.d2 D.f2 D.ss2 s.K s.F s.L s.T s.I s.b s.a).1,D.st.dropLast⟩,true)|none=>(D,false) else (D,false)
theorem undoRes_no {D:PDraft} (h:draftOk D=false):undoRes D=(D,false):=by unfold undoRes;rw [h];rfl
theorem undoRes_nil {D:PDraft} (h:D.st=[]):undoRes D=(D,false):=by unfold undoRes;rw [h];split <;> rfl
theorem undoRes_yes {d1 f1:Int} {ss1:List ByteArray} {d2 f2:Int} {ss2:List ByteArray} {l:List PStep} {s:PStep} (h:draftOk ⟨d1,f1,ss1,d2,f2,ss2,l++[s]⟩=true):undoRes ⟨d1,f1,ss1,d2,f2,ss2,l++[s]⟩=(⟨d1,f1,ss1,d2,f2,(stepRes false d2 f2 ss2 s.K s.F s.L s.T s.I s.b s.a).1,l⟩,true):=by
 unfold undoRes;rw [h];simp
theorem undoRes_ok (D:PDraft) (h:OkDraft D 1048576):OkDraft (undoRes D).1 1048576:=by
 unfold undoRes
 split
 ·split
  ·rename_i s hs
   have hm:=List.mem_of_getLast? hs
   have hz:=h.z3 s hm
   have h2:=stepRes_ok false D.d2 D.f2 D.ss2 s.K s.F s.L s.T s.I s.b s.a 1048576 h.l2 (by omega) h.z2 hz.1 hz.2
   exact ⟨h.l1,h2.1,by have:=h.l3;simp;omega,h.z1,h2.2,fun x hx=>h.z3 x (List.dropLast_subset _ hx)⟩
  ·exact h
 ·exact h
theorem UDraftB.weak {d1 f1:Int} {ss1:List ByteArray} {d2 f2:Int} {ss2:List ByteArray} {st:List PStep} {b:Bool} {w w':World} {e:Ending} (h:UDraftB d1 f1 ss1 d2 f2 ss2 st b w e w'):UDraftWB d1 f1 ss1 d2 f2 ss2 st b w e w':=by
 obtain ⟨B1,e1,B2,e2,B3,e3,he,ho,hb⟩:=h
 exact ⟨B1,e1,B2,e2,B3,e3,he,OwnDW.of ho,hb⟩
theorem udw_cast {D:PDraft} {b:Bool} {q:PDraft×Bool} {w w':World} {e:Ending} (h:q=(D,b)) (hu:UDraftWB D.d1 D.f1 D.ss1 D.d2 D.f2 D.ss2 D.st b w e w'):UDraftWB q.1.d1 q.1.f1 q.1.ss1 q.1.d2 q.1.f2 q.1.ss2 q.1.st q.2 w e w':=by subst h;exact hu
end Go.Proofs.YtlimlolciekimaaGreatDoor
