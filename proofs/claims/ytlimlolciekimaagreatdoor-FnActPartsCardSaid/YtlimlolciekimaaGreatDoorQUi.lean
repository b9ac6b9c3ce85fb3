/- Contracts of the program's and the reference's functions (Item1, Item2, Item3, Item4, Item6). -/
import Derived.Deep.DeepCutAuto
import Derived.Deep.RegionHeld3
import Derived.Test.YtlimlolciekimaaGreatDoorRows
import Derived.Test.YtlimlolciekimaaGreatDoorQUb
import Derived.Test.YtlimlolciekimaaGreatDoorQUa
namespace Go.Proofs.YtlimlolciekimaaGreatDoor
set_option maxHeartbeats 1600000
open Go.ChangeShapes Go.WideShapes Go.ChangeAt Go.RowKit
set_option linter.unusedVariables false
set_option maxRecDepth 10000
structure PItem where
 (nm:ByteArray)
 (d f:Int)
 (ss:List ByteArray)
structure RItem where
 (x:PItem)
 (A:Option Addr)
 (c:Nat)
def itemCells (r:RItem):List Value:=[.string r.x.nm,.int .i64 r.x.d,.int .i64 r.x.f,.slice r.A r.x.ss.length r.c]
theorem itemCells_len (r:RItem):(itemCells r).length=4:=rfl
theorem itemCells_one (l:List RItem):∀ u∈l.flatMap itemCells,u.oneCell'=true:=by
 intro u hu
 obtain ⟨s,_,h⟩:=List.mem_flatMap.1 hu
 simp [itemCells] at h
 rcases h with rfl|rfl|rfl|rfl <;> rfl
abbrev RItem.v (r:RItem):Value:=.slice r.A r.x.ss.length r.c
structure Items (w:World) (B:Nat) (A:Option Addr) (n:Nat) (L:List RItem):Prop where
 rd:Reads w B 4 A n (L.flatMap itemCells)
 nb:n≤16777216
 in_:∀ r∈L,Strs w B r.A r.x.ss.length r.x.ss∧r.x.nm.size≤16777216
section
variable {w w':World} {B B' n:Nat} {A:Option Addr} {L:List RItem}
theorem Items.len (h:Items w B A n L):L.length=n:=by
 have:=h.rd.1;rw [flat_len itemCells_len] at this;omega
theorem Items.below (h:Items w B A n L) (hb:Below B w w'):Items w' B A n L:=⟨h.rd.below hb,h.nb,fun r hr=>⟨(h.in_ r hr).1.below hb,(h.in_ r hr).2⟩⟩
theorem Items.alloc (h:Items w B A n L) (hB:B≤w.heap.size) (o:Obj):Items (w.alloc o) B A n L:=⟨h.rd.alloc hB o,h.nb,fun r hr=>⟨(h.in_ r hr).1.alloc hB o,(h.in_ r hr).2⟩⟩
theorem itemCells_at {w:World} {B n:Nat} {A:Option Addr} {l:List RItem} {k:Nat} (hR:Reads w B 4 A n (l.flatMap itemCells)) (hl:l.length=n) (hk:k<n):∃ (hk':k<l.length) (ad:Addr),A=some ad∧ad.block<B∧w.cell? (ad.add (k * 4))=some (.string l[k].x.nm)∧w.cell? ⟨(ad.add (k * 4)).block,(ad.add (k * 4)).off+1,none⟩=some (.int .i64 l[k].x.d)∧w.cell? ⟨(ad.add (k * 4)).block,(ad.add (k * 4)).off+2,none⟩=some (.int .i64 l[k].x.f)∧w.cell? ⟨(ad.add (k * 4)).block,(ad.add (k * 4)).off+3,none⟩=some (.slice l[k].A l[k].x.ss.length l[k].c):=by
 have hk':k<l.length:=by omega
 obtain ⟨ad,e,hb,hc⟩:=hR.2 (by omega)
 have hg:=fun j hj=>flat_get itemCells_len l k j hk' hj
 exact ⟨hk',ad,e,hb,hc _ _ (hg 0 (by omega)),by rw [← add_next _ _ _ (by omega)];exact hc _ _ (hg 1 (by omega)),by rw [← add_next _ _ _ (by omega)];exact hc _ _ (hg 2 (by omega)),by rw [← add_next _ _ _ (by omega)];exact hc _ _ (hg 3 (by omega))⟩
theorem Items.at_ {k:Nat} (h:Items w B A n L) (hk:k<n):∃ (hk':k<L.length) (ad:Addr),A=some ad∧ad.block<B∧w.cell? (ad.add (k * 4))=some (.string L[k].x.nm)∧w.cell? ⟨(ad.add (k * 4)).block,(ad.add (k * 4)).off+1,none⟩=some (.int .i64 L[k].x.d)∧w.cell? ⟨(ad.add (k * 4)).block,(ad.add (k * 4)).off+2,none⟩=some (.int .i64 L[k].x.f)∧w.cell? ⟨(ad.add (k * 4)).block,(ad.add (k * 4)).off+3,none⟩=some (.slice L[k].A L[k].x.ss.length L[k].c)∧Strs w B L[k].A L[k].x.ss.length L[k].x.ss∧L[k].x.nm.size≤16777216:=by
 obtain ⟨hk',ad,e,hb,h0,h1,h2,h3⟩:=itemCells_at h.rd h.len hk
 have hi:=h.in_ _ (List.getElem_mem hk')
 exact ⟨hk',ad,e,hb,h0,h1,h2,h3,hi.1,hi.2⟩
end
structure OwnItems (w:World) (lo hi:Nat) (A:Option Addr) (n c:Nat) (L:List RItem):Prop where
 row:w.ownsRow lo 65 4 (.slice A n c) n (L.flatMap itemCells)
 top:∀ k,(Value.slice A n c).ownBlock=some k→k<hi
 in_:∀ r∈L,OwnS w lo hi r.A r.c r.x.ss
 apart:L.Pairwise (fun r s=>∀ k,r.v.ownBlock=some k→s.v.ownBlock≠some k)
section
variable {w w':World} {lo hi lo' hi' n c:Nat} {A:Option Addr} {L:List RItem}
theorem OwnItems.len (h:OwnItems w lo hi A n c L):L.length=n:=by
 have:=h.row.1;rw [flat_len itemCells_len] at this;omega
theorem OwnItems.within {l h:Nat} (ho:OwnItems w lo hi A n c L) (hW:Within l h w w') (hd:hi≤l∨h≤lo):OwnItems w' lo hi A n c L :=
 ⟨own_within ho.row hW (fun k hk=>by have h1:=ho.top k hk;have h2:=(ho.row.lt k hk).1;omega),ho.top,fun r hr=>(ho.in_ r hr).within hW hd,ho.apart⟩
theorem OwnItems.below (ho:OwnItems w lo hi A n c L) (hb:Below w.heap.size w w'):OwnItems w' lo hi A n c L:=⟨own_below ho.row hb,ho.top,fun r hr=>(ho.in_ r hr).below hb,ho.apart⟩
theorem OwnItems.box {g:Nat} {cs:Array Value} {t:TypeId} {fr:Nat×Nat} (ho:OwnItems w lo hi A n c L) (hk:w.heap[g]?=some (.cells cs t fr)) (ht:t∉rowTys) (hg:w.grownBy w' (some g)):OwnItems w' lo hi A n c L:=⟨own_box ho.row (by decide) hk ht hg,ho.top,fun r hr=>(ho.in_ r hr).box hk ht hg,ho.apart⟩
theorem OwnItems.boxy (ho:OwnItems w lo hi A n c L) (h:Boxy w w'):OwnItems w' lo hi A n c L:=⟨own_boxy ho.row (by decide) h,ho.top,fun r hr=>(ho.in_ r hr).boxy h,ho.apart⟩
theorem OwnItems.drew (ho:OwnItems w lo hi A n c L):OwnItems w.drew lo hi A n c L:=⟨ho.row,ho.top,fun r hr=>(ho.in_ r hr).drew,ho.apart⟩
theorem OwnItems.alloc (ho:OwnItems w lo hi A n c L) (o:Obj):OwnItems (w.alloc o) lo hi A n c L:=⟨ho.row.alloc _,ho.top,fun r hr=>(ho.in_ r hr).alloc _,ho.apart⟩
theorem OwnItems.wide (ho:OwnItems w lo hi A n c L) (h1:lo'≤lo) (h2:hi≤hi'):OwnItems w lo' hi' A n c L :=
 ⟨own_base ho.row h1,fun k hk=>by have:=ho.top k hk;omega,fun r hr=>(ho.in_ r hr).wide h1 h2,ho.apart⟩
theorem OwnItems.rd (ho:OwnItems w lo hi A n c L) (hn:n≤16777216) (hs:∀ r∈L,r.x.ss.length≤16777216∧(∀ s∈r.x.ss,s.size≤16777216)∧r.x.nm.size≤16777216):Items w w.heap.size A n L :=
 ⟨Reads.of_own ho.row,hn,fun r hr=>⟨(ho.in_ r hr).rd (hs r hr).1 (hs r hr).2.1,(hs r hr).2.2⟩⟩
end
def OkItems (P:List PItem) (m:Nat):Prop:=P.length≤m∧∀ x∈P,x.ss.length≤m∧(∀ s∈x.ss,s.size≤16777216)∧x.nm.size≤16777216
def plI (L:List RItem):List PItem:=L.map RItem.x
theorem plI_len (L:List RItem):(plI L).length=L.length:=by simp [plI]
theorem OkItems.more {P:List PItem} {m k:Nat} (h:OkItems P m) (hm:m≤k):OkItems P k:=⟨by have:=h.1;omega,fun x hx=>⟨by have:=(h.2 x hx).1;omega,(h.2 x hx).2⟩⟩
theorem OkItems.raw {L:List RItem} (h:OkItems (plI L) 16777216):∀ r∈L,r.x.ss.length≤16777216∧(∀ s∈r.x.ss,s.size≤16777216)∧r.x.nm.size≤16777216:=fun r hr=>h.2 r.x (List.mem_map.2 ⟨r,hr,rfl⟩)
theorem OwnItems.rdOk {w:World} {lo hi n c:Nat} {A:Option Addr} {L:List RItem} (ho:OwnItems w lo hi A n c L) (hP:OkItems (plI L) 16777216):Items w w.heap.size A n L:=by
 have hl:=ho.len
 have:=hP.1
 rw [plI_len] at this
 exact ho.rd (by omega) hP.raw
theorem Items.ok {w:World} {B n:Nat} {A:Option Addr} {L:List RItem} (h:Items w B A n L):OkItems (plI L) 16777216:=by
 refine ⟨by rw [plI_len,h.len];exact h.nb,fun x hx=>?_⟩
 obtain ⟨r,hr,rfl⟩:=List.mem_map.1 hx
 have h1:=(h.in_ r hr).1
 exact ⟨h1.nb,h1.sb,(h.in_ r hr).2⟩
def FreshItems (base:Nat) (P:List PItem) (w:World) (e:Ending) (w':World):Prop :=
 ∃ A c L,e=.returned (.slice A P.length c)∧plI L=P∧OwnItems w' base w'.heap.size A P.length c L∧Below w.heap.size w w'
theorem info_itemCells:(Tryz.prog.info? 65).map (fun i=>(i.zero,i.size,i.bytes))=some (some (.agg #[.string ByteArray.empty,.int .i64 0,.int .i64 0,.slice none 0 0]),4,56):=by kernel_rfl
theorem OwnItems.append {w w':World} {lo n c c':Nat} {A A':Option Addr} {L:List RItem} {r:RItem} (ho:OwnItems w lo w.heap.size A n c L) (hr:OwnS w lo w.heap.size r.A r.c r.x.ss)
  (hne:∀ s∈L,∀ k,s.v.ownBlock=some k→r.v.ownBlock≠some k) (hg:w.grownBy w' (Value.slice A n c).ownBlock) (h2:w'.ownsRow lo 65 4 (.slice A' (n+1) c') (n+1) (L.flatMap itemCells++itemCells r)) :
  OwnItems w' lo w'.heap.size A' (n+1) c' (L++[r]):=by
 have key:∀ s:RItem,OwnS w lo w.heap.size s.A s.c s.x.ss→OwnS w' lo w'.heap.size s.A s.c s.x.ss:=fun s hs =>
  ⟨own_grown hs.row hg (fun k hk=>by
   intro he
   exact own_ne_type hs.row ho.row (by decide) k hk he),fun k hk=>by have h1:=hs.top k hk;have h2:=hg.size;omega⟩
 refine ⟨by rw [flat_snoc];exact h2,fun k hk=>(h2.lt k hk).2,?_,?_⟩
 ·intro s hs
  rcases List.mem_append.1 hs with h|h
  ·exact key s (ho.in_ s h)
  ·have:=List.mem_singleton.1 h
   subst this
   exact key _ hr
 ·rw [List.pairwise_append]
  refine ⟨ho.apart,by simp,fun a ha b hb=>?_⟩
  have:=List.mem_singleton.1 hb
  subst this
  exact hne a ha
theorem OwnItems.nil {w:World} {lo hi c:Nat} {A:Option Addr} (h:w.ownsRow lo 65 4 (.slice A 0 c) 0 []) (ht:∀ k,(Value.slice A 0 c).ownBlock=some k→k<hi):OwnItems w lo hi A 0 c [] :=
 ⟨h,ht,(fun r hr=>absurd hr (by simp)),List.Pairwise.nil⟩
open Go.ChangeShapes Go.WideShapes Go.ChangeAt Go.RowKit
set_option linter.unusedVariables false
set_option maxRecDepth 10000
def szItem (nm:ByteArray) (ss:List ByteArray) (left:Int):Int:=if left - nm.size<0 then -1 else szStrs ss (left - nm.size)
def szIts:List PItem→Int→Int
 |[],left=>left
 |x :: l,left=>if szItem x.nm x.ss left<0 then -1 else szIts l (szItem x.nm x.ss left)
def szItems (l:List PItem) (left:Int):Int:=if left - l.length<0 then -1 else szIts l (left - l.length)
structure RawItems (w:World) (B:Nat) (A:Option Addr) (L:List RItem):Prop where
 rd:Reads w B 4 A L.length (L.flatMap itemCells)
 nb:L.length≤9223372036854775807
 in_:∀ r∈L,Reads w B 1 r.A r.x.ss.length (r.x.ss.map Value.string)∧r.x.ss.length≤9223372036854775807∧(∀ s∈r.x.ss,s.size≤9223372036854775807)∧r.x.nm.size≤9223372036854775807
def UItem (nm:ByteArray) (d f:Int) (ss:List ByteArray) (w:World) (e:Ending) (w':World):Prop :=
 ∃ A c,e=.returned (.agg #[.string nm,.int .i64 d,.int .i64 f,.slice A ss.length c])∧OwnS w' w.heap.size w'.heap.size A c ss∧Below w.heap.size w w'
def zItem:RItem:=⟨⟨ByteArray.empty,0,0,[]⟩,none,0⟩
def UItems (P:List PItem) (w:World) (e:Ending) (w':World):Prop :=
 ∃ A c L,e=.returned (.slice A P.length c)∧plI L=P∧OwnItems w' w.heap.size w'.heap.size A P.length c L∧Below w.heap.size w w'
theorem OwnItems.rdP {w:World} {lo hi c:Nat} {A:Option Addr} {L:List RItem} {P:List PItem} (ho:OwnItems w lo hi A P.length c L) (hp:plI L=P) (hP:OkItems P 16777216):Items w w.heap.size A P.length L:=by
 subst hp;exact ho.rdOk hP
def cntI:List PItem→Nat
 |[]=>0
 |x :: l=>3+x.ss.length+cntI l
def mkSS (k:Int) (n:Nat):List ByteArray:=(List.range n).map fun i=>markT (k+(i:Nat))
def mkItem (k:Int) (r:RItem):RItem:=⟨⟨markT k,k+1,k+1+1,mkSS (k+1+1+1) r.x.ss.length⟩,r.A,r.c⟩
def mksI:Int→List RItem→List RItem
 |_,[]=>[]
 |k,r :: l=>mkItem k r :: mksI (k+3+r.x.ss.length) l
theorem plI_append (a b:List RItem):plI (a++b)=plI a++plI b:=by simp [plI]
def nmB (b:UInt8):Bool:=decide (97≤b.toNat)&&decide (b.toNat≤122)
def nameOk (s:ByteArray):Bool:=s.data.toList.all nmB&&inB s.size 1 12
theorem nameOk_no {s:ByteArray} {k:Nat} (hk:k<s.size) (h:nmB s[k]=false):nameOk s=false:=by
 have:s.data.toList.all nmB=false:=by
  rw [List.all_eq_false]
  refine ⟨s[k],?_,by simp [h]⟩
  have:s[k]=s.data.toList[k]'(by simpa using hk):=rfl
  rw [this];exact List.getElem_mem _
 unfold nameOk;rw [this];rfl
theorem i_NameOk (s:ByteArray) (w:World) (hs:s.size≤16777216) :
  Calls Tryz.prog 136 #[.string s] w fun e w'=>e=.returned (.bool (nameOk s))∧w=w':=by
 go_enter Tryz.func136,Tryz.ntmps136
 go_wp2
 go_loop [3,6] (fun x i=>∃ k:Nat,k≤s.size∧i=.int .i64 k∧(s.data.toList.take k).all nmB=true) (fun _ i=>s.size - (intOf i).toNat)
 case atStart=>exact ⟨0,Nat.zero_le _,rfl,by simp⟩
 case round =>
  obtain ⟨k,hk,rfl,hall⟩:=hrel
  by_cases hlt:k<s.size
  ·have HT:=Lib.hid (take_snoc s k hlt)
   by_cases h1:s[k].toNat<97
   ·have HF:=Lib.hid (nameOk_no hlt (by unfold nmB;rw [decide_eq_false (by omega)];rfl))
    go_wp2
    go_ret
    exact ⟨ret_bool HF.out.symm,rfl⟩
   ·by_cases h2:122<s[k].toNat
    ·have HF:=Lib.hid (nameOk_no hlt (by unfold nmB;rw [decide_eq_true (by omega),decide_eq_false (by omega)];rfl))
     go_wp2
     go_ret
     exact ⟨ret_bool HF.out.symm,rfl⟩
    ·go_wp2
     go_round
     case rel=>exact ⟨k+1,by omega,by go_num,by rw [HT.out,List.all_append,hall];simp [nmB];omega⟩
     case measure=>simp [intOf];omega
  ·have hke:k=s.size:=by omega
   have HF:Hid (nameOk s=inB s.size 1 12):=by
    unfold Hid nameOk
    rw [List.take_of_length_le (by simp;omega)] at hall
    rw [hall];rfl
   clear hall hke
   go_wp2_with (go_at_call 71;refine (i_within _ _ _ _).mono ?_;rintro e w' ⟨rfl,rfl⟩)
   go_ret
   exact ⟨ret_bool HF.out.symm,rfl⟩
theorem s_NameOk (s:ByteArray) (w:World) (hs:s.size≤16777216) :
  Calls Tryz.prog 148 #[.string s] w fun e w'=>e=.returned (.bool (nameOk s))∧w=w':=by
 go_enter Tryz.func148,Tryz.ntmps148
 go_wp2
 go_loop [3] (fun i=>∃ k:Nat,k≤s.size∧i=.int .i64 k∧(s.data.toList.take k).all nmB=true) (fun i=>s.size - (intOf i).toNat)
 case atStart=>exact ⟨0,Nat.zero_le _,rfl,by simp⟩
 case round =>
  obtain ⟨k,hk,rfl,hall⟩:=hrel
  by_cases hlt:k<s.size
  ·have HT:=Lib.hid (take_snoc s k hlt)
   by_cases h1:s[k].toNat<97
   ·have HF:=Lib.hid (nameOk_no hlt (by unfold nmB;rw [decide_eq_false (by omega)];rfl))
    go_wp2
    go_ret
    exact ⟨ret_bool HF.out.symm,rfl⟩
   ·by_cases h2:122<s[k].toNat
    ·have HF:=Lib.hid (nameOk_no hlt (by unfold nmB;rw [decide_eq_true (by omega),decide_eq_false (by omega)];rfl))
     go_wp2
     go_ret
     exact ⟨ret_bool HF.out.symm,rfl⟩
    ·go_wp2
     go_round
     case rel=>exact ⟨k+1,by omega,by go_num,by rw [HT.out,List.all_append,hall];simp [nmB];omega⟩
     case measure=>simp [intOf];omega
  ·have hke:k=s.size:=by omega
   have HF:Hid (nameOk s=inB s.size 1 12):=by
    unfold Hid nameOk
    rw [List.take_of_length_le (by simp;omega)] at hall
    rw [hall];rfl
   clear hall hke
   go_wp2_with (go_at_call 95;refine (s_l01In _ _ _ _).mono ?_;rintro e w' ⟨rfl,rfl⟩)
   go_ret
   exact ⟨ret_bool HF.out.symm,rfl⟩
def nmLe (a b:ByteArray):Bool:=Op.bytesLess a.toList b.toList||a.toList==b.toList
def itGood (P:List PItem) (i:Nat):Bool :=
 match P[i]? with
 |none=>true
 |some x=>(nameOk x.nm&&cardOk x.d x.f x.ss)&&(decide (i=0)||match P[i - 1]? with|none=>true|some y=>!nmLe x.nm y.nm)
def catOk (P:List PItem):Bool:=(List.range P.length).all (itGood P)&&decide (P.length≤20)
theorem catOk_no {P:List PItem} {k:Nat} (hk:k<P.length) (h:itGood P k=false):catOk P=false:=by
 have:(List.range P.length).all (itGood P)=false:=by
  rw [List.all_eq_false];exact ⟨k,by simpa using hk,by simp [h]⟩
 unfold catOk;rw [this];rfl
theorem itGood_0 {P:List PItem} {x:PItem} (h:P[0]?=some x):itGood P 0=(nameOk x.nm&&cardOk x.d x.f x.ss):=by unfold itGood;rw [h];simp
theorem itGood_s {P:List PItem} {k:Nat} {x y:PItem} (h:P[k+1]?=some x) (h2:P[k]?=some y):itGood P (k+1)=((nameOk x.nm&&cardOk x.d x.f x.ss)&&!nmLe x.nm y.nm):=by
 unfold itGood;rw [h];simp [h2]
theorem all_range_succ {f:Nat→Bool} {k:Nat} (h:(List.range k).all f=true) (h2:f k=true):(List.range (k+1)).all f=true:=by
 rw [List.range_succ,List.all_append,h];simp [h2]
theorem plI_at {L:List RItem} {k:Nat} (hk:k<L.length):(plI L)[k]?=some L[k].x:=by simp [plI,hk]
theorem reads_new4 (W:World) (cs:Array Value) (t:TypeId) (n size:Nat) (h:cs.size=n * size):Reads (W.alloc (.cells cs t)) (W.heap.size+1) size (some ⟨W.heap.size,0,none⟩) n cs.toList :=
 ⟨by simpa using h,fun _=>⟨_,rfl,by simp,fun j u hj=>World.news_of_block (blk_new W (.cells cs t)) j u hj⟩⟩
theorem keep_box {B b:Nat} {a W:World} {c0 c1 c2 c3:Value} {t:TypeId} (h:Below B a W) (hk:W.heap[b]?=some (.cells #[c0,c1,c2,c3] t (0,0))):(∀ p:Addr,p.block<B→W.cell? p=a.cell? p)∧(W.cell? ⟨b,0,none⟩=some c0∧W.cell? ⟨b,1,none⟩=some c1∧W.cell? ⟨b,2,none⟩=some c2∧W.cell? ⟨b,3,none⟩=some c3)∧Below B a W :=
 ⟨fun _ hp=>h.cell hp,⟨(blk4 hk).1,(blk4 hk).2.1,(blk4 hk).2.2.1,(blk4 hk).2.2.2.1⟩,h⟩
theorem itemCells_one1 (s:RItem):∀ u∈itemCells s,u.oneCell'=true:=by
 intro u h
 simp [itemCells] at h
 rcases h with rfl|rfl|rfl|rfl <;> rfl
theorem Items.take {w:World} {B n:Nat} {A:Option Addr} {L:List RItem} (h:Items w B A n L) {k:Nat} (hk:k≤n):Items w B A k (L.take k):=by
 have hl:=h.len
 refine ⟨⟨by rw [flat_len itemCells_len,List.length_take];omega,fun h0=>?_⟩,by have:=h.nb;omega,fun r hr=>h.in_ r (List.mem_of_mem_take hr)⟩
 obtain ⟨ad,e,hb,hc⟩:=h.rd.2 (by omega)
 refine ⟨ad,e,hb,fun j u hu=>hc j u ?_⟩
 rw [← flat_take itemCells_len] at hu
 rw [List.getElem?_take] at hu
 split at hu
 ·exact hu
 ·cases hu
theorem Items.drop {w:World} {B n:Nat} {A:Option Addr} {L:List RItem} (h:Items w B A n L) {k cap:Nat} (hk:k≤n) (hc:n≤cap):Items w B (if cap=k then A else A.map (·.add (k * 4))) (n - k) (L.drop k):=by
 have hcut:=h.rd.cut hk hc
 have he:(L.flatMap itemCells).drop (k * 4)=(L.drop k).flatMap itemCells:=by
  have h1:L.flatMap itemCells=(L.take k).flatMap itemCells++(L.drop k).flatMap itemCells:=by rw [← List.flatMap_append,List.take_append_drop]
  have h2:((L.take k).flatMap itemCells).length=k * 4:=by rw [flat_len itemCells_len,List.length_take,h.len];omega
  rw [h1,← h2,List.drop_left]
 rw [he] at hcut
 exact ⟨hcut,by have:=h.nb;omega,fun r hr=>h.in_ r (List.mem_of_mem_drop hr)⟩
set_option maxHeartbeats 6400000 in
theorem u_copyItems (P:List PItem) (B:Nat) (A:Option Addr) (n c:Nat) (L:List RItem) (w:World) (hp:plI L=P) (hS:Items w B A n L) (hB:B≤w.heap.size) :
  Calls Tryz.prog 85 #[.slice A n c] w (UItems P w):=by
 have hn:=hS.nb
 have hl:P.length=n:=by rw [← hp,plI_len,hS.len]
 have HL:=Lib.hid hl
 have HP:=Lib.hid hp
 clear hl hp
 obtain ⟨i0,hi0,hz0,hz1i,hz2⟩:=info_parts info_itemCells
 go_enter Tryz.func85,Tryz.ntmps85
 go_wp2
 go_loopw [3,5,9] (fun q y i wr=>∃ (j:Nat) (A9:Option Addr) (c9:Nat) (M:List RItem),j≤n∧i=.int .i64 j∧q=.slice A9 j c9∧Hid (M.length=j)∧Hid (plI M=P.take j)∧OwnItems wr w.heap.size wr.heap.size A9 j c9 M∧Below w.heap.size w wr) (fun _ _ i _=>n - (intOf i).toNat)
 case atStart =>
  have h:=made_at (e:=65) (size:=4) w w.heap.size w.heap.size rfl (Nat.le_refl _)
  exact ⟨0,_,_,[],Nat.zero_le _,rfl,rfl,rfl,rfl,OwnItems.nil h (fun k hk=>(h.lt k hk).2),bel⟩
 case round =>
  obtain ⟨j,A9,c9,M,hj,rfl,rfl,HM,HT,hown,hb⟩:=hrel
  have hzr:=hb.size
  by_cases hlt:j<n
  ·have hSr:=hS.below (hb.mono hB)
   obtain ⟨hk1,ad,rfl,hab,hc0,hc1,hc2,hc3,hss,hnm⟩:=hSr.at_ hlt
   have hx:(plI L)[j]'(by rw [plI_len];exact hk1)=L[j].x:=by simp [plI]
   have HTK:Hid (P.take (j+1)=P.take j++[L[j].x]):=by
    unfold Hid
    have hP:=HP.out
    subst hP
    rw [List.take_succ_eq_append_getElem (by rw [plI_len];exact hk1),hx]
   clear hx
   generalize L[j]=r at *
   obtain ⟨⟨nm,d,f,ss⟩,A0,c0⟩:=r
   simp only at hc0 hc1 hc2 hc3 hss hnm HTK
   have hn0:=hss.nb
   go_wp2
   have hk0:=blk_new wr (.cells #[.string nm,.int .i64 d,.int .i64 f,.slice A0 ss.length c0] 65)
   have hbW:Below wr.heap.size wr (wr.alloc (.cells #[.string nm,.int .i64 d,.int .i64 f,.slice A0 ss.length c0] 65)):=bel
   have hs0:=hss.alloc (by omega) (.cells #[.string nm,.int .i64 d,.int .i64 f,.slice A0 ss.length c0] 65)
   have ho0:=(hown.alloc (.cells #[.string nm,.int .i64 d,.int .i64 f,.slice A0 ss.length c0] 65))
   generalize (wr.alloc (.cells #[.string nm,.int .i64 d,.int .i64 f,.slice A0 ss.length c0] 65))=w0 at *
   obtain ⟨hy0,hy1,hy2,hy3,hyl⟩:=blk4 hk0
   have hq2:wr.heap.size≤w0.heap.size:=hbW.size
   have hs0B:=hs0.more (B':=w0.heap.size) (by omega)
   go_region_held3 (fun W=>(∀ p:Addr,p.block<w.heap.size→W.cell? p=w0.cell? p)∧(W.cell? ⟨wr.heap.size,0,none⟩=some (.string nm)∧W.cell? ⟨wr.heap.size,1,none⟩=some (.int .i64 d)∧W.cell? ⟨wr.heap.size,2,none⟩=some (.int .i64 f)∧W.cell? ⟨wr.heap.size,3,none⟩=some (.slice A0 ss.length c0))∧Below w.heap.size w0 W) (first|exact keep_box bel hkb2|exact keep_box bel hk0|exact keep_box bel (blk_drew hk0)|exact keep_box (by first|exact hb1X.mono (by omega)|exact bel) (blk_next hk0 hb1X)|exact keep_box ((hb1X.mono (by omega)).alloc (by omega) _) (blk_alloc (blk_next hk0 hb1X) _)) (first|(go_at_call 122;have hq:=(‹_∧_∧Below _ _ _›).2.2;refine (i_copied d f B A0 _ c0 ss _ (hs0.below (hq.mono hB)) (Nat.le_trans (by omega) hq.size)).mono ?_;rintro e w1 ⟨A1,c1,rfl,hor,hb1⟩;(have hb1X:Below w0.heap.size w0 w1:=(by first|exact hb1|exact (Below.refl _ _).drew.trans hb1|exact (below_drewN (Below.refl _ _) _).trans hb1));(have hz1:=hb1X.size);(have horX:w1.ownsRow w0.heap.size 9 1 (.slice A1 ss.length c1) ss.length (ss.map Value.string):=own_base hor hq.size);clear hor;obtain ⟨hv0,hv1,hv2,hv3,hvl⟩:=blk4 (blk_next hk0 hb1X))|((have ho1:=(ho0.below hb1X).alloc (.cells #[.string nm,.int .i64 d,.int .i64 f,.slice A1 ss.length c1] 65));(have hoE:=ho1.row);(have hrE:Reads (w1.alloc (.cells #[.string nm,.int .i64 d,.int .i64 f,.slice A1 ss.length c1] 65)) (w1.heap.size+1) 4 (some ⟨w1.heap.size,0,none⟩) 1 (itemCells ⟨⟨nm,d,f,ss⟩,A1,c1⟩):=reads_new4 w1 _ _ 1 4 rfl);refine step_append_any _ rfl (.tmp 13) (.tmp 20) _ rfl w.heap.size 65 i0 _ 4 56 Tryz.underlying30 hi0 hz0 hz1i hz2 rfl (by omega) (.slice A9 j c9) j (M.flatMap itemCells) rfl ?_ (w1.heap.size+1) (some ⟨w1.heap.size,0,none⟩) 1 1 (itemCells ⟨⟨nm,d,f,ss⟩,A1,c1⟩) rfl ?_ (itemCells_one1 _) ?_ ?_ ?_ ?_;(first|exact hoE|exact ⟨hoE.1,hoE.2⟩);(first|exact hrE|exact ⟨hrE.1,hrE.2⟩);(unfold maxLen;omega);omega;(simp;omega);intro v1 w2 hoa hga0 hata;(have hga:World.grownBy (w1.alloc (.cells #[.string nm,.int .i64 d,.int .i64 f,.slice A1 ss.length c1] 65)) w2 (Value.slice A9 j c9).ownBlock:=(by first|exact hga0|exact ⟨hga0.os,hga0.tape,hga0.output,hga0.size,hga0.block⟩));(have hbz2:Below w.heap.size w0 w2:=(((hb1X.mono (by omega)).alloc (by omega) _).trans (grown_below hga (fun k hk=>(ho1.row.lt k hk).1) (by simp;omega))));(have hkb2:w2.heap[wr.heap.size]?=some (.cells #[.string nm,.int .i64 d,.int .i64 f,.slice A0 ss.length c0] 65 (0,0)):=(hga.block wr.heap.size (by simp;omega) (by intro he;have:=(hown.row.lt _ he.symm).2;omega)).trans (blk_alloc (blk_next hk0 hb1X) _));obtain ⟨A7,c7,rfl⟩:=own_slice hoa))
   all_goals (
    go_wp2
    go_roundw
    case rel =>
     have hne:∀ s∈M,∀ k,s.v.ownBlock=some k→(RItem.v ⟨⟨nm,d,f,ss⟩,A1,c1⟩).ownBlock≠some k:=by
      intro s hs k hk hk2
      have q1:=((hown.in_ s hs).row.lt k hk).2
      have q2:=(horX.lt k hk2).1
      omega
     have hfin:=OwnItems.append (r:=⟨⟨nm,d,f,ss⟩,A1,c1⟩) (ho1.wide (Nat.le_refl _) (by simp;omega)) ((OwnS.of (own_base horX (by omega)) (Nat.le_refl _)).alloc _|>.wide (Nat.le_refl _) (by simp)) hne hga hoa
     refine ⟨j+1,A7,c7,M++[⟨⟨nm,d,f,ss⟩,A1,c1⟩],by omega,by go_num,rfl,by unfold Hid;rw [List.length_append,HM.out];rfl,?_,hfin,?_⟩
     ·unfold Hid;rw [HTK.out,← HT.out];simp [plI]
     ·exact (hb.trans ((hbW.trans (hb1X.mono hq2)).mono hzr)).trans ((Below.alloc (Below.refl _ _) (by first|exact Nat.le_refl _|(simp;done)|omega|(simp;omega)|exact (‹_∧_∧Below _ _ _›).2.2.size) _).trans (grown_below hga (fun k hk=>by have:=(ho1.row.lt k hk).1;omega) (by simp;omega)))
    case measure=>simp [intOf];omega)
  ·have hjn:j=n:=by omega
   subst hjn
   have hT:plI M=P:=by rw [HT.out];exact List.take_of_length_le (by have:=HL.out;omega)
   have HO:=hide (And.intro hT hown)
   clear hown hT
   go_wp2
   go_ret
   have hl:=HL.out
   obtain ⟨h1,h2⟩:=unhide HO
   subst hl
   exact ⟨_,_,M,rfl,h1,h2,hb⟩
set_option maxHeartbeats 6400000 in
theorem u_l35Copy (P:List PItem) (B:Nat) (A:Option Addr) (n c:Nat) (L:List RItem) (w:World) (hp:plI L=P) (hS:Items w B A n L) (hB:B≤w.heap.size) :
  Calls Tryz.prog 173 #[.slice A n c] w (UItems P w):=by
 have hn:=hS.nb
 have hl:P.length=n:=by rw [← hp,plI_len,hS.len]
 have HL:=Lib.hid hl
 have HP:=Lib.hid hp
 clear hl hp
 obtain ⟨i0,hi0,hz0,hz1i,hz2⟩:=info_parts info_itemCells
 go_enter Tryz.func173,Tryz.ntmps173
 go_wp2
 go_loopw [3,4] (fun q i wr=>∃ (j:Nat) (A9:Option Addr) (c9:Nat) (M:List RItem),j≤n∧i=.int .i64 j∧q=.slice A9 j c9∧Hid (M.length=j)∧Hid (plI M=P.take j)∧OwnItems wr w.heap.size wr.heap.size A9 j c9 M∧Below w.heap.size w wr) (fun _ i _=>n - (intOf i).toNat)
 case atStart =>
  have h:=made_at (e:=65) (size:=4) w w.heap.size w.heap.size rfl (Nat.le_refl _)
  exact ⟨0,_,_,[],Nat.zero_le _,rfl,rfl,rfl,rfl,OwnItems.nil h (fun k hk=>(h.lt k hk).2),bel⟩
 case round =>
  obtain ⟨j,A9,c9,M,hj,rfl,rfl,HM,HT,hown,hb⟩:=hrel
  have hzr:=hb.size
  by_cases hlt:j<n
  ·have hSr:=hS.below (hb.mono hB)
   obtain ⟨hk1,ad,rfl,hab,hc0,hc1,hc2,hc3,hss,hnm⟩:=hSr.at_ hlt
   have hx:(plI L)[j]'(by rw [plI_len];exact hk1)=L[j].x:=by simp [plI]
   have HTK:Hid (P.take (j+1)=P.take j++[L[j].x]):=by
    unfold Hid
    have hP:=HP.out
    subst hP
    rw [List.take_succ_eq_append_getElem (by rw [plI_len];exact hk1),hx]
   clear hx
   generalize L[j]=r at *
   obtain ⟨⟨nm,d,f,ss⟩,A0,c0⟩:=r
   simp only at hc0 hc1 hc2 hc3 hss hnm HTK
   have hn0:=hss.nb
   go_wp2
   obtain ⟨w0,hw0⟩:∃ W,W=wr:=⟨_,rfl⟩
   have hbW:Below wr.heap.size wr w0:=by rw [hw0];exact Below.refl _ _
   have hs0:=hss
   have ho0:=hown
   rw [← hw0] at hs0 ho0 hc0 hc1 hc2 hc3 ⊢
   have hq1:(ad.add (j * 4)).block<w.heap.size:=by rw [block_of_add];omega
   clear hw0
   have hq2:wr.heap.size≤w0.heap.size:=hbW.size
   have hs0B:=hs0.more (B':=w0.heap.size) (by omega)
   go_region_held3 (fun W=>(∀ p:Addr,p.block<w.heap.size→W.cell? p=(w0).cell? p)∧(∀ p:Addr,p.block<w.heap.size→W.frozen? p=(w0).frozen? p)∧Below (w.heap.size) (w0) W) (exact keep_ofP bel) (first|(go_at_call 181;have hq:=(‹_∧_∧Below _ _ _›).2.2;refine (s_l05Copy d f B A0 _ c0 ss _ (hs0.below (hq.mono hB)) (Nat.le_trans (by omega) hq.size)).mono ?_;rintro e w1 ⟨A1,c1,rfl,hor,hb1⟩;(have hb1X:Below w0.heap.size w0 w1:=(by first|exact hb1|exact (Below.refl _ _).drew.trans hb1|exact (below_drewN (Below.refl _ _) _).trans hb1));(have hz1:=hb1X.size);(have horX:w1.ownsRow w0.heap.size 9 1 (.slice A1 ss.length c1) ss.length (ss.map Value.string):=own_base hor hq.size);clear hor)|((have ho1:=(ho0.below hb1X).alloc (.cells #[.string nm,.int .i64 d,.int .i64 f,.slice A1 ss.length c1] 65));(have hoE:=ho1.row);(have hrE:Reads (w1.alloc (.cells #[.string nm,.int .i64 d,.int .i64 f,.slice A1 ss.length c1] 65)) (w1.heap.size+1) 4 (some ⟨w1.heap.size,0,none⟩) 1 (itemCells ⟨⟨nm,d,f,ss⟩,A1,c1⟩):=reads_new4 w1 _ _ 1 4 rfl);refine step_append_any _ rfl (.tmp 12) (.tmp 25) _ rfl w.heap.size 65 i0 _ 4 56 Tryz.underlying30 hi0 hz0 hz1i hz2 rfl (by omega) (.slice A9 j c9) j (M.flatMap itemCells) rfl ?_ (w1.heap.size+1) (some ⟨w1.heap.size,0,none⟩) 1 1 (itemCells ⟨⟨nm,d,f,ss⟩,A1,c1⟩) rfl ?_ (itemCells_one1 _) ?_ ?_ ?_ ?_;(first|exact hoE|exact ⟨hoE.1,hoE.2⟩);(first|exact hrE|exact ⟨hrE.1,hrE.2⟩);(unfold maxLen;omega);omega;(simp;omega);intro v1 w2 hoa hga0 hata;(have hga:World.grownBy (w1.alloc (.cells #[.string nm,.int .i64 d,.int .i64 f,.slice A1 ss.length c1] 65)) w2 (Value.slice A9 j c9).ownBlock:=(by first|exact hga0|exact ⟨hga0.os,hga0.tape,hga0.output,hga0.size,hga0.block⟩));(have hbz2:Below w.heap.size w0 w2:=(((hb1X.mono (by omega)).alloc (by omega) _).trans (grown_below hga (fun k hk=>(ho1.row.lt k hk).1) (by simp;omega))));obtain ⟨A7,c7,rfl⟩:=own_slice hoa))
   all_goals (
    go_wp2
    go_roundw
    case rel =>
     have hne:∀ s∈M,∀ k,s.v.ownBlock=some k→(RItem.v ⟨⟨nm,d,f,ss⟩,A1,c1⟩).ownBlock≠some k:=by
      intro s hs k hk hk2
      have q1:=((hown.in_ s hs).row.lt k hk).2
      have q2:=(horX.lt k hk2).1
      omega
     have hfin:=OwnItems.append (r:=⟨⟨nm,d,f,ss⟩,A1,c1⟩) (ho1.wide (Nat.le_refl _) (by simp;omega)) ((OwnS.of (own_base horX (by omega)) (Nat.le_refl _)).alloc _|>.wide (Nat.le_refl _) (by simp)) hne hga hoa
     refine ⟨j+1,A7,c7,M++[⟨⟨nm,d,f,ss⟩,A1,c1⟩],by omega,by go_num,rfl,by unfold Hid;rw [List.length_append,HM.out];rfl,?_,hfin,?_⟩
     ·unfold Hid;rw [HTK.out,← HT.out];simp [plI]
     ·exact (hb.trans ((hbW.trans (hb1X.mono hq2)).mono hzr)).trans ((Below.alloc (Below.refl _ _) (by first|exact Nat.le_refl _|(simp;done)|omega|(simp;omega)|exact (‹_∧_∧Below _ _ _›).2.2.size) _).trans (grown_below hga (fun k hk=>by have:=(ho1.row.lt k hk).1;omega) (by simp;omega)))
    case measure=>simp [intOf];omega)
  ·have hjn:j=n:=by omega
   subst hjn
   have hT:plI M=P:=by rw [HT.out];exact List.take_of_length_le (by have:=HL.out;omega)
   have HO:=hide (And.intro hT hown)
   clear hown hT
   go_wp2
   go_ret
   have hl:=HL.out
   obtain ⟨h1,h2⟩:=unhide HO
   subst hl
   exact ⟨_,_,M,rfl,h1,h2,hb⟩
end Go.Proofs.YtlimlolciekimaaGreatDoor
