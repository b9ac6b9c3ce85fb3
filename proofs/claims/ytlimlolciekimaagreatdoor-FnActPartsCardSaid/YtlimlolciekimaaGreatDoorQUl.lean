/- Contracts of the program's and the reference's functions (Item7, Item8, Item9, Ins2, Item10, Item12, Item11, Item14, Item13). -/
import Derived.BigQuiet
import Derived.Deep.DeepCutAuto
import Derived.Deep.LoopGhost
import Derived.Deep.QuietTactic
import Derived.Deep.RegionHeld3
import Derived.Deep.RegionLaw
import Derived.Lib.SliceRun
import Derived.Lib.SlicesDelete
import Derived.Shelf.Spec.SlicesInsertGrow
import Derived.WalkKit
import Derived.Test.YtlimlolciekimaaGreatDoorRows
import Derived.Test.YtlimlolciekimaaGreatDoorQUa
import Derived.Test.YtlimlolciekimaaGreatDoorQUk
import Derived.Test.YtlimlolciekimaaGreatDoorQUi
import Derived.Test.YtlimlolciekimaaGreatDoorQUb
namespace Go.Proofs.YtlimlolciekimaaGreatDoor
set_option maxHeartbeats 1600000
open Go.ChangeShapes Go.WideShapes Go.ChangeAt Go.RowKit
set_option linter.unusedVariables false
set_option maxRecDepth 10000
def idxNm (P:List PItem) (name:ByteArray):Option Nat:=P.findIdx? fun x=>decide (x.nm=name)
def noNm (P:List PItem) (name:ByteArray) (j:Nat):Prop:=∀ i,i<j→∀ x,P[i]?=some x→x.nm≠name
theorem noNm_zero (P:List PItem) (name:ByteArray):noNm P name 0:=fun i hi=>absurd hi (by omega)
theorem noNm_succ {P:List PItem} {name:ByteArray} {j:Nat} {x:PItem} (h:noNm P name j) (hx:P[j]?=some x) (hn:x.nm≠name):noNm P name (j+1):=by
 intro i hi y hy
 rcases Nat.lt_or_ge i j with h1|h1
 ·exact h i h1 y hy
 ·have:i=j:=by omega
  subst this
  rw [hx] at hy;injection hy with hy;subst hy;exact hn
theorem idxNm_some {P:List PItem} {name:ByteArray} {j:Nat} {x:PItem} (h:noNm P name j) (hx:P[j]?=some x) (hn:x.nm=name):idxNm P name=some j:=by
 unfold idxNm
 obtain ⟨hj,rfl⟩:=List.getElem?_eq_some_iff.1 hx
 rw [List.findIdx?_eq_some_iff_getElem]
 refine ⟨hj,by simpa using hn,fun i hi=>?_⟩
 have:=h i hi _ (List.getElem?_eq_getElem (by omega))
 simpa using this
theorem idxNm_none {P:List PItem} {name:ByteArray} (h:noNm P name P.length):idxNm P name=none:=by
 unfold idxNm
 rw [List.findIdx?_eq_none_iff]
 intro x hx
 obtain ⟨i,hi,rfl⟩:=List.getElem_of_mem hx
 have:=h i hi _ (List.getElem?_eq_getElem hi)
 simpa using this
def idxI (P:List PItem) (name:ByteArray):Int:=match idxNm P name with|some k=>k|none=>-1
theorem c_itemNamed1 (nm name:ByteArray) (d f:Int) (A:Option Addr) (n c g:Nat) (w:World) (hg:w.cell? ⟨g,0,none⟩=some (.string name)) (hlt:g<w.heap.size) :
  Calls Tryz.prog 275 #[.agg #[.string nm,.int .i64 d,.int .i64 f,.slice A n c],.pointer (some ⟨g,0,none⟩)] w fun e w'=>e=.returned (.bool (decide (nm=name)))∧Below w.heap.size w w':=by
 by_cases h:nm=name
 ·have hbq:=beq_toList_true h
  have HD:Hid (decide (nm=name)=true):=by unfold Hid;simp [h]
  clear h
  go_enter Tryz.func275,Tryz.ntmps275
  go_wp2
  go_ret
  exact ⟨ret_bool HD.out.symm,bel⟩
 ·have hbq:=beq_toList_false h
  have HD:Hid (decide (nm=name)=false):=by unfold Hid;simp [h]
  clear h
  go_enter Tryz.func275,Tryz.ntmps275
  go_wp2
  go_ret
  exact ⟨ret_bool HD.out.symm,bel⟩
theorem idxFunc (name:ByteArray) (g:Nat) (P:List PItem) (B:Nat) (A:Option Addr) (n c:Nat) (L:List RItem) (w:World) (hp:plI L=P) (hS:Items w B A n L) (hB:B≤w.heap.size) (hg:w.cell? ⟨g,0,none⟩=some (.string name)) (hlt:g<w.heap.size) :
  Calls Tryz.prog 274 #[.slice A n c,.func (.func 275) #[] #[.pointer (some ⟨g,0,none⟩)]] w fun e w'=>e=.returned (.int .i64 (idxI P name))∧Below w.heap.size w w':=by
 have hn:=hS.nb
 have hl:P.length=n:=by rw [← hp,plI_len,hS.len]
 have HL:=Lib.hid hl
 have HP:=Lib.hid hp
 clear hl hp
 go_enter Tryz.func274,Tryz.ntmps274
 go_wp2
 go_loopw [5,8] (fun x i wr=>∃ j:Nat,j≤n∧i=.int .i64 j∧Hid (noNm P name j)∧Below w.heap.size w wr) (fun _ i _=>n - (intOf i).toNat)
 case atStart=>exact ⟨0,Nat.zero_le _,rfl,noNm_zero _ _,Below.refl _ _⟩
 case round =>
  obtain ⟨j,hj,rfl,HN,hb⟩:=hrel
  have hzr:=hb.size
  by_cases hltn:j<n
  ·obtain ⟨hk1,ad,rfl,hab,hc0,hc1,hc2,hc3,hss,hnm⟩:=(hS.below (hb.mono hB)).at_ hltn
   have HX:=Lib.hid (show P[j]?=some L[j].x by rw [← HP.out];exact plI_at hk1)
   have hgr:wr.cell? ⟨g,0,none⟩=some (.string name):=by rw [hb.cell (p:=⟨g,0,none⟩) hlt];exact hg
   have hgl:g<wr.heap.size:=by omega
   generalize L[j]=r at *
   have hcon:=c_itemNamed1 r.x.nm name r.x.d r.x.f r.A r.x.ss.length r.c g wr hgr hgl
   by_cases hq:r.x.nm=name
   ·have HF:Hid (idxI P name=j):=by unfold Hid idxI;rw [idxNm_some HN.out HX.out hq]
    rw [show decide (r.x.nm=name)=true by simp [hq]] at hcon
    have HC:=hide hcon
    clear hq hcon
    go_wp2_with (go_at_call 275;refine (unhide HC).mono ?_;rintro e w1 ⟨rfl,hb1⟩)
    go_ret
    exact ⟨ret_int HF.out.symm,bel⟩
   ·have HS:=Lib.hid (noNm_succ HN.out HX.out hq)
    rw [show decide (r.x.nm=name)=false by simp [hq]] at hcon
    have HC:=hide hcon
    clear hq hcon
    go_wp2_with (go_at_call 275;refine (unhide HC).mono ?_;rintro e w1 ⟨rfl,hb1⟩)
    go_roundw
    case rel=>exact ⟨j+1,by omega,by go_num,HS.out,bel⟩
    case measure=>simp [intOf];omega
  ·have hjn:j=n:=by omega
   have HF:Hid (idxI P name = -1):=by unfold Hid idxI;rw [idxNm_none (by rw [HL.out,← hjn];exact HN.out)]
   clear hjn
   go_wp2
   go_ret
   exact ⟨ret_int HF.out.symm,hb⟩
theorem i_itemNamed (name:ByteArray) (P:List PItem) (B:Nat) (A:Option Addr) (n c:Nat) (L:List RItem) (w:World) (hp:plI L=P) (hS:Items w B A n L) (hB:B≤w.heap.size) :
  Calls Tryz.prog 242 #[.slice A n c,.string name] w fun e w'=>e=.returned (.int .i64 (idxI P name))∧Below w.heap.size w w':=by
 have hmf:∀ (fn:Fn) (first cap:Array Value) (w:World),(Instr.makeFunc fn first cap).run Tryz.prog w=.ok (.func fn first cap) w:=fun _ _ _ _=>rfl
 have hcon:=idxFunc name w.heap.size P B A n c L (w.alloc (.cells #[.string name] 9)) hp (hS.alloc hB _) (by simp;omega) (by rw [World.cell?_alloc_mark];rfl) (by simp)
 have HC:=hide hcon
 clear hcon
 go_enter Tryz.func242,Tryz.ntmps242
 go_wp2_with (go_at_call 274;refine (unhide HC).mono ?_;rintro e w1 ⟨rfl,hb1⟩)
 go_ret
 exact ⟨rfl,bel⟩
def named (P:List PItem) (name:ByteArray):(Int×Int)×(List ByteArray×Bool) :=
 if catOk P=true then match idxNm P name with|some k=>(match P[k]? with|some x=>((x.d,x.f),(x.ss,true))|none=>((0,0),([],false)))|none=>((0,0),([],false)) else ((0,0),([],false))
theorem named_no1 {P:List PItem} {name:ByteArray} (h:catOk P=false):named P name=((0,0),([],false)):=by unfold named;rw [h];simp
theorem named_no2 {P:List PItem} {name:ByteArray} (h:idxNm P name=none):named P name=((0,0),([],false)):=by unfold named;rw [h];split <;> rfl
theorem named_yes {P:List PItem} {name:ByteArray} {k:Nat} {x:PItem} (h:catOk P=true) (h2:idxNm P name=some k) (h3:P[k]?=some x):named P name=((x.d,x.f),(x.ss,true)):=by unfold named;rw [h,if_pos rfl,h2];simp [h3]
theorem zeroCard (w w':World) (hb:Below w.heap.size w w'):UCardB 0 0 [] false w (.returned (.tuple #[.agg #[.int .i64 0,.int .i64 0,.slice none 0 0],.bool false])) w' :=
 ⟨none,0,rfl,⟨World.ownsRow_nil w' _ _ _,fun k hk=>by simp [Value.ownBlock] at hk⟩,hb⟩
theorem ucardB_cast {d f:Int} {ss:List ByteArray} {b:Bool} {q:(Int×Int)×(List ByteArray×Bool)} {w w':World} {e:Ending} (h:q=((d,f),(ss,b))) (hu:UCardB d f ss b w e w'):UCardB q.1.1 q.1.2 q.2.1 q.2.2 w e w':=by subst h;exact hu
set_option maxHeartbeats 3200000 in
theorem i_CardNamed (name:ByteArray) (P:List PItem) (B:Nat) (A:Option Addr) (n c:Nat) (L:List RItem) (w:World) (hp:plI L=P) (hS:Items w B A n L) (hB:B≤w.heap.size) :
  Calls Tryz.prog 197 #[.slice A n c,.string name] w (UCardB (named P name).1.1 (named P name).1.2 (named P name).2.1 (named P name).2.2 w):=by
 have hn:=hS.nb
 have hix:=fun (W:World) (hW:Below w.heap.size w W)=>i_itemNamed name P B A n c L W hp (hS.below (hW.mono hB)) (Nat.le_trans hB hW.size)
 have hco:=fun (W:World) (hW:Below w.heap.size w W)=>i_CatalogOk P B A n c L W hp (hS.below (hW.mono hB)) (Nat.le_trans hB hW.size)
 cases hck:catOk P
 ·have HR:=Lib.hid (named_no1 (name:=name) hck)
  simp only [hck] at hco
  have HIX:=hide hix
  have HCO:=hide hco
  clear hix hco hck
  go_enter Tryz.func197,Tryz.ntmps197
  go_wp2_with (first|(go_at_call 242;refine (unhide HIX _ (by exact bel)).mono ?_;rintro e w1 ⟨rfl,hb1⟩;obtain ⟨hcb1,hfb1⟩:=bcell hb1;obtain ⟨qaa,qba⟩:=zs1 (show w.heap.size<w1.heap.size by have hzz:=hb1.size;(try simp at hzz);omega);(have hbw1:Below w.heap.size w w1:=bel))|(go_at_call 83;refine (unhide HCO _ hbw1).mono ?_;rintro e w2 ⟨rfl,hb2⟩;obtain ⟨hcb2,hfb2⟩:=bcell hb2;(have hz2:w.heap.size<w2.heap.size:=(by have:=hb2.size;omega));(have hbw2:Below w.heap.size w w2:=hbw1.trans (hb2.mono hbw1.size))))
  refine bodyPost_ret (v:=.tuple #[.agg #[.int .i64 0,.int .i64 0,.slice none 0 0],.bool false]) (by simp [results,Tryz.results197,go_sem, *]) rfl ?_
  exact ucardB_cast HR.out (zeroCard _ _ bel)
 ·cases hk:idxNm P name with
  |none =>
   have HR:=Lib.hid (named_no2 hk)
   have hI:idxI P name = -1:=by unfold idxI;rw [hk]
   simp only [hck] at hco
   simp only [hI] at hix
   have HIX:=hide hix
   have HCO:=hide hco
   clear hix hco hck hk hI
   go_enter Tryz.func197,Tryz.ntmps197
   go_wp2_with (first|(go_at_call 242;refine (unhide HIX _ (by exact bel)).mono ?_;rintro e w1 ⟨rfl,hb1⟩;obtain ⟨hcb1,hfb1⟩:=bcell hb1;obtain ⟨qaa,qba⟩:=zs1 (show w.heap.size<w1.heap.size by have hzz:=hb1.size;(try simp at hzz);omega);(have hbw1:Below w.heap.size w w1:=bel))|(go_at_call 83;refine (unhide HCO _ hbw1).mono ?_;rintro e w2 ⟨rfl,hb2⟩;obtain ⟨hcb2,hfb2⟩:=bcell hb2;(have hz2:w.heap.size<w2.heap.size:=(by have:=hb2.size;omega));(have hbw2:Below w.heap.size w w2:=hbw1.trans (hb2.mono hbw1.size))))
   refine bodyPost_ret (v:=.tuple #[.agg #[.int .i64 0,.int .i64 0,.slice none 0 0],.bool false]) (by simp [results,Tryz.results197,go_sem, *]) rfl ?_
   exact ucardB_cast HR.out (zeroCard _ _ bel)
  |some k =>
   have hkP:k<P.length:=by
    unfold idxNm at hk
    exact (List.findIdx?_eq_some_iff_getElem.1 hk).1
   have hl:P.length=n:=by rw [← hp,plI_len,hS.len]
   have hI:idxI P name=k:=by unfold idxI;rw [hk]
   have hkn:k<n:=by omega
   obtain ⟨hk1,_⟩:=hS.at_ hkn
   have HR:=Lib.hid (named_yes (x:=L[k].x) hck hk (by rw [← hp];exact plI_at hk1))
   simp only [hck] at hco
   simp only [hI] at hix
   have HIX:=hide hix
   have HCO:=hide hco
   clear hix hco hck hk hI hkP hl hp
   go_enter Tryz.func197,Tryz.ntmps197
   go_wp2_with (first|(go_at_call 242;refine (unhide HIX _ (by exact bel)).mono ?_;rintro e w1 ⟨rfl,hb1⟩;obtain ⟨hcb1,hfb1⟩:=bcell hb1;obtain ⟨qaa,qba⟩:=zs1 (show w.heap.size<w1.heap.size by have hzz:=hb1.size;(try simp at hzz);omega);(have hbw1:Below w.heap.size w w1:=bel))|(go_at_call 83;refine (unhide HCO _ hbw1).mono ?_;rintro e w2 ⟨rfl,hb2⟩;obtain ⟨hcb2,hfb2⟩:=bcell hb2;(have hz2:w.heap.size<w2.heap.size:=(by have:=hb2.size;omega));(have hbw2:Below w.heap.size w w2:=hbw1.trans (hb2.mono hbw1.size));obtain ⟨hk9,ad,rfl,hab,hc0,hc1,hc2,hc3,hss,hnm⟩:=(hS.below (hbw2.mono hB)).at_ hkn)|(go_at_call 122;refine (i_copied _ _ B _ _ _ _ _ hss (by have:=hbw2.size;omega)).mono ?_;rintro e w3 ⟨A3,c3,rfl,ho3,hb3⟩;obtain ⟨hcb3,hfb3⟩:=bcell hb3;(have hz3:w.heap.size<w3.heap.size:=(by have:=hb3.size;omega));(have hbw3:Below w.heap.size w w3:=hbw2.trans (hb3.mono hbw2.size))))
   refine bodyPost_ret (v:=.tuple #[.agg #[.int .i64 L[k].x.d,.int .i64 L[k].x.f,.slice A3 L[k].x.ss.length c3],.bool true]) (by simp [results,Tryz.results197,go_sem, *]) rfl ?_
   refine ucardB_cast HR.out ⟨A3,c3,rfl,OwnS.of (own_up ho3 upr hbw2.size) (by simp),bel⟩
section
open Go.ChangeShapes Go.WideShapes Go.ChangeAt Go.RowKit Go.Lib
set_option linter.unusedVariables false
set_option maxRecDepth 10000
theorem flat_drop {α:Type} {f:α→List Value} {k:Nat} (hf:∀ x,(f x).length=k) (l:List α) (i:Nat) (hi:i≤l.length):(l.flatMap f).drop (i * k)=(l.drop i).flatMap f:=by
 have h1:l.flatMap f=(l.take i).flatMap f++(l.drop i).flatMap f:=by rw [← List.flatMap_append,List.take_append_drop]
 have h2:((l.take i).flatMap f).length=i * k:=by rw [flat_len hf,List.length_take,Nat.min_eq_left hi]
 rw [h1,← h2,List.drop_left]
theorem run_clear_sliceG {P:Program} (w:World) (t e ty:TypeId) (z:Value) (ZS:List Value) (ht:P.underlying t=some (.slice e)) (hv:∀ w,(zeroValue e).run P w=.ok z w) (b o n c:Nat) (hn:0<n)
  (hz:(Builtin.zeroCells z.cells n).toList=ZS) (h1:∀ v∈ZS,v.oneCell'=true)
  (hc:∀ j,j<ZS.length→(w.cell? ⟨b,o+j,none⟩).isSome=true) (hf:∀ j,j<ZS.length→w.frozen? ⟨b,o+j,none⟩=false) :
  (Builtin.clear_ #[t] ty #[.slice (some ⟨b,o,none⟩) n c]).run P w=.ok (.tuple #[]) (w.setCells b o ZS):=by
 have hst:=run_storeCells_cells (P:=P) b o ZS 0 w (by simpa using hc) (by simpa using hf) h1
 simp only [Nat.add_zero] at hst
 obtain ⟨m,rfl⟩:∃ m,n=m+1:=⟨n - 1,by omega⟩
 simp [Builtin.clear_,run_underlying ht,hv,hz,hst]
theorem lay_del {xs zs:List Value} {k n size:Nat} (hx:xs.length=n * size) (hk:k<n) :
  (((xs.take (k * size)++(xs.drop ((k+1) * size)++xs.drop (k * size+(xs.drop ((k+1) * size)).length))).take ((n - 1) * size))++zs).take ((n - 1) * size)=xs.take (k * size)++xs.drop ((k+1) * size):=by
 have h1:(k+1) * size≤n * size:=Nat.mul_le_mul_right _ hk
 have h2:(k+1) * size=k * size+size:=by rw [Nat.succ_mul]
 have h3:n * size=(n - 1) * size+size:=by rw [← Nat.succ_mul];congr 1;omega
 have hl:(xs.take (k * size)++xs.drop ((k+1) * size)).length=(n - 1) * size:=by rw [List.length_append,List.length_take,List.length_drop];omega
 have hT:(xs.take (k * size)++(xs.drop ((k+1) * size)++xs.drop (k * size+(xs.drop ((k+1) * size)).length))).take ((n - 1) * size)=xs.take (k * size)++xs.drop ((k+1) * size):=by
  rw [← List.append_assoc,List.take_append_of_le_length (Nat.le_of_eq hl.symm),List.take_of_length_le (Nat.le_of_eq hl)]
 rw [hT,List.take_append_of_le_length (Nat.le_of_eq hl.symm),List.take_of_length_le (Nat.le_of_eq hl)]
theorem OwnItems.erase {w w':World} {lo n c m c':Nat} {A A':Option Addr} {L L':List RItem} (ho:OwnItems w lo w.heap.size A n c L)
  (hg:w.grownBy w' (Value.slice A n c).ownBlock) (h2:w'.ownsRow lo 65 4 (.slice A' m c') m (L'.flatMap itemCells)) (hs:List.Sublist L' L) :
  OwnItems w' lo w'.heap.size A' m c' L':=by
 refine ⟨h2,fun k hk=>(h2.lt k hk).2,fun s hs'=>?_,ho.apart.sublist hs⟩
 have hq:=ho.in_ s (hs.subset hs')
 exact ⟨own_grown hq.row hg (fun k hk=>by
   intro he
   exact own_ne_type hq.row ho.row (by decide) k hk he),fun k hk=>by have h1:=hq.top k hk;have h2:=hg.size;omega⟩
theorem sub_erase {α:Type} (L:List α) (k:Nat):List.Sublist (L.take k++L.drop (k+1)) L:=by
 have h:L.take k++L.drop k=L:=List.take_append_drop k L
 have h2:List.Sublist (L.drop (k+1)) (L.drop k):=by
  rw [show k+1=k+1 from rfl,← List.drop_drop];exact List.drop_sublist _ _
 calc List.Sublist (L.take k++L.drop (k+1)) (L.take k++L.drop k):=(List.Sublist.refl _).append h2
  _=L:=h
set_option maxHeartbeats 4000000 in
set_option maxRecDepth 1000000 in
theorem del_item (base g n c k j:Nat) (L:List RItem) (w:World) (hO:w.ownsRow base 65 4 (.slice (some ⟨g,0,none⟩) n c) n (L.flatMap itemCells)) (hk:k<n) (hj:j=k+1) (hn:n≤16777216) :
  Calls Tryz.prog 243 #[.slice (some ⟨g,0,none⟩) n c,.int .i64 k,.int .i64 j] w fun e w'=>e=.returned (.slice (some ⟨g,0,none⟩) (n - 1) c) ∧
   w'.ownsRow base 65 4 (.slice (some ⟨g,0,none⟩) (n - 1) c) (n - 1) ((L.take k++L.drop j).flatMap itemCells)∧w.grownBy w' (some g):=by
 have hxl:(L.flatMap itemCells).length=n * 4:=hO.1
 have hLl:L.length=n:=by rw [flat_len itemCells_len] at hxl;omega
 obtain ⟨hnc,hc63⟩:=own_capG hO
 obtain ⟨cur,hblk,hcs,hcm,hbg⟩:=own_block hO
 have hglt:=blk_lt hblk
 have hdrop:=flat_drop itemCells_len L j (by omega)
 have htake:=flat_take itemCells_len L k
 have hone:=itemCells_one (L.drop j)
 rw [List.flatMap_append,← htake,← hdrop]
 rw [← hdrop] at hone
 clear hdrop htake
 generalize L.flatMap itemCells=xs at *
 obtain ⟨news,hnews⟩:∃ news,news=xs.drop (j * 4):=⟨_,rfl⟩
 have hlen:news.length=(n - j) * 4:=by rw [hnews,List.length_drop];omega
 have hget:∀ t u,news[t]?=some u→w.drew.cell? ⟨g,j * 4+t,none⟩=some u:=by
  intro t u hu
  have ht:=(List.getElem?_eq_some_iff.1 hu).1
  rw [hnews,List.getElem?_drop] at hu
  exact (hO.cellAt _ (by omega)).trans hu
 obtain ⟨AD,hA,hsrc⟩:∃ AD:Addr,(if c=j then some (⟨g,0,none⟩:Addr) else some ⟨g,j * 4,none⟩)=some AD∧Hid (∀ t u,news[t]?=some u→w.drew.cell? (AD.add t)=some u):=by
  by_cases h:c=j
  ·refine ⟨⟨g,0,none⟩,by simp [h],fun t u hu=>?_⟩
   have h0:news.length=0:=by rw [hlen];omega
   rw [List.length_eq_zero_iff.1 h0] at hu
   simp at hu
  ·refine ⟨⟨g,j * 4,none⟩,by simp [h],fun t u hu=>?_⟩
   rw [Addr.add_lit]
   exact hget t u hu
 have s1:Hid (news.length=(n - j) * 4):=hlen
 have s2:Hid (∀ u∈news,u.oneCell'=true):=by rw [hnews];exact hone
 have s3:Hid (∀ t,t<news.length→(w.drew.cell? ⟨g,0+k * 4+t,none⟩).isSome=true∧w.drew.frozen? ⟨g,0+k * 4+t,none⟩=false):=by
  intro t ht
  refine ⟨?_,hO.frozenAt _⟩
  show (w.cell? _).isSome=true
  rw [hO.cellAt _ (by omega),List.getElem?_eq_getElem (by omega)];rfl
 obtain ⟨W1,hW1⟩:∃ W1,W1=w.drew.setCells g (0+k * 4) news:=⟨_,rfl⟩
 have h1:=own_setCellsG news (0+k * 4) w.drew xs hO.drew (by omega)
 rw [← hW1] at h1
 have h2:=own_setCellsG [.string ByteArray.empty,.int .i64 0,.int .i64 0,.slice none 0 0] ((n - 1) * 4) W1 _ h1.1 (by simp;omega)
 have hcl:∀ ty,(Builtin.clear_ #[30] ty #[.slice (some ⟨g,(k+(n - j)) * 4,none⟩) (n - (k+(n - j))) (c - (k+(n - j)))]).run Tryz.prog W1=.ok (.tuple #[]) (W1.setCells g ((n - 1) * 4) [.string ByteArray.empty,.int .i64 0,.int .i64 0,.slice none 0 0]):=by
  intro ty
  rw [show k+(n - j)=n - 1 by omega,show n - (n - 1)=1 by omega]
  refine run_clear_sliceG W1 _ _ ty _ _ Tryz.underlying30 Tryz.zeroValue65 g _ 1 _ (by omega) (by kernel_rfl) (by intro v hv;simp at hv;rcases hv with rfl|rfl|rfl|rfl <;> rfl) (fun j hj=>?_) (fun j _=>h1.1.frozenAt _)
  simp at hj
  rw [h1.1.cellAt _ (by omega),List.getElem?_eq_getElem (by have:=h1.1.1;omega)];rfl
 have hgr:w.grownBy (W1.setCells g ((n - 1) * 4) [.string ByteArray.empty,.int .i64 0,.int .i64 0,.slice none 0 0]) (some g):=only_trans (only_trans (grown_drewN w 1 _) h1.2) h2.2
 have hrow:=own_prefixG h2.1 (m:=n - 1) (by omega)
 rw [hnews,hj,Nat.zero_add,lay_del hxl hk,← hj,← hnews] at hrow
 obtain ⟨i0,hi0,hz0,hz1i,hz2⟩:=info_parts info_itemCells
 have hjc:j≤c:=by omega
 have hic:k≤c:=by omega
 have hjn:j≤n:=by omega
 have hkj:k≤j:=by omega
 have hkj2:¬k=j:=by omega
 have hsum:k+(n - j)=n - 1:=by omega
 have mixed:Tryz.prog.follows Departure.mixedOrders=true:=by kernel_rfl
 have hW:Hid (W1=w.drew.setCells g (0+k * 4) news):=hW1
 have HROW:=Lib.hid hrow
 have HGR:=Lib.hid hgr
 have HSUM:=Lib.hid hsum
 clear hW1 h1 h2 hget hone hxl hLl hlen hcs hblk hrow hgr hO hj hsum
 go_enter Tryz.func243,Tryz.ntmps243
 go_wp2_with fail
 go_region_law_o (refine step_append_room rfl (.tmp 22) (.tmp 25) 30 rfl 65 i0 4 Tryz.underlying30 hi0 hz1i g 0 k c (by simp [Act.eval,Act.put]) AD (n - j) (c - j) news (by simp [Act.eval,Act.put]) s1.out hsrc.out s2.out (by omega) s3.out ?_;rw [← hW.out])
 go_wp2
 go_ret
 refine ⟨?_,?_,?_⟩
 ·rw [← HSUM.out];rfl
 ·rw [← hnews];exact HROW.out
 ·exact HGR.out
end
section
open Go.ChangeShapes Go.WideShapes Go.ChangeAt Go.RowKit Go.Lib
set_option linter.unusedVariables false
set_option maxRecDepth 10000
theorem run_copy_cellsG {P:Program} (w:World) (dT sT ty elem:TypeId) (b o dLen dCap:Nat) (a:Addr) (sLen sCap:Nat) (cs:List Value) (size:Nat)
  (hu:P.underlying dT=some (.slice elem)) (hs:(P.info? elem).map (·.size)=some size) (hn:cs.length=Nat.min sLen dLen * size)
  (hsrc:∀ j v,cs[j]?=some v→w.cell? (a.add j)=some v) (hc:∀ j,j<cs.length→(w.cell? ⟨b,o+j,none⟩).isSome=true) (hf:∀ j,j<cs.length→w.frozen? ⟨b,o+j,none⟩=false) (h1:∀ v∈cs,v.oneCell'=true) :
  (Builtin.copy_ #[dT,sT] ty #[.slice (some ⟨b,o,none⟩) dLen dCap,.slice (some a) sLen sCap]).run P w=.ok (goInt (Nat.min sLen dLen)) (w.setCells b o cs):=by
 have hl:=run_loadCells_list (P:=P) w a cs hsrc
 have hst:=run_storeCells_cells (P:=P) b o cs 0 w (by simpa using hc) (by simpa using hf) h1
 cases hq:P.info? elem with
 |none=>simp [hq] at hs
 |some i =>
  have hi:i.size=size:=by simpa [hq] using hs
  simp [Builtin.copy_,run_underlying hu,Builtin.lenOf,Builtin.firstCells,sizeOf,typeInfo,hq,hi,← hn,hl,hst]
set_option maxHeartbeats 4000000 in
set_option maxRecDepth 100000 in
theorem insI_shift (b off n c i vb voff m vc:Nat) (cs vs:List Value) (w:World) (hi:i<n) (hm:0<m) (hroom:n+m≤c) (hc63:c≤9223372036854775807) (hvb:vb≠b)
  (hcl:cs.length=n * 4) (hvl:vs.length=m * 4)
  (hcs:∀ j v,cs[j]?=some v→w.cell? ⟨b,off+j,none⟩=some v) (hsp:∀ j,j<(n+m) * 4→(w.cell? ⟨b,off+j,none⟩).isSome=true) (hfz:∀ j,j<(n+m) * 4→w.frozen? ⟨b,off+j,none⟩=false)
  (hvs:∀ j v,vs[j]?=some v→w.cell? ⟨vb,voff+j,none⟩=some v) (h1c:∀ v∈cs,v.oneCell'=true) (h1v:∀ v∈vs,v.oneCell'=true)
  (tA tB:TypeId) (kA kB:Nat) (hsa:w.shape? vb=some (tA,kA)) (hsb:w.shape? b=some (tB,kB)) (hkB:kB≠0) (hfa:w.frozen? ⟨vb,voff,none⟩=false) (hfe:w.frozen? ⟨vb,kA,none⟩=false) :
  Calls Tryz.prog 241 #[.slice (some ⟨b,off,none⟩) n c,.int .i64 i,.slice (some ⟨vb,voff,none⟩) m vc] w fun e w' =>
   e=.returned (.slice (some ⟨b,off,none⟩) (n+m) c)∧w'=(w.drew.setCells b (off+(i+m) * 4) (cs.drop (i * 4))).setCells b (off+i * 4) vs:=by
 have mixed:Tryz.prog.follows Departure.mixedOrders=true:=by kernel_rfl
 have hz1:¬((m:Int)=0):=by omega
 have hz2:¬((i:Int)=(n:Int)):=by omega
 have hsz:(Tryz.prog.info? 65).map (·.size)=some 4:=by
  obtain ⟨i0,hi0,h0,h1,h2⟩:=info_parts info_itemCells
  rw [hi0];simp [h1]
 have hov:∀ lb cb,(callFunc 272 #[.slice (some ⟨vb,voff,none⟩) m vc,.slice (some ⟨b,off+(i+m) * 4,none⟩) lb cb]).run Tryz.prog w=.ok (.value (.bool false)) w:=fun lb cb=>by
  rw [run_callFunc_extern Tryz.func272 (by kernel_rfl) (by kernel_rfl) (by kernel_rfl) (e:=Extern.SlicesOverlaps.overlaps #[30,30] #[4]) (by kernel_rfl),
   Lib.run_overlaps_apart w 30 4 65 Tryz.underlying30 4 Tryz.sizeOf65 ⟨vb,voff,none⟩ ⟨b,off+(i+m) * 4,none⟩ m vc lb cb hvb tA tB kA kB hsa hsb hkB hfa hfe]
  rfl
 have hdl:(cs.drop (i * 4)).length=(n - i) * 4:=by rw [List.length_drop,hcl];omega
 have hw1:IntKind.i64.wrap ((i:Int)+(m:Int))=(i:Int)+(m:Int):=by rw [IntKind.wrap_i64];omega
 have hb1:(0:Int)≤(i:Int)+(m:Int):=by omega
 have hin:i≤n:=by omega
 have htn:((i:Int)+(m:Int)).toNat=i+m:=by omega
 have hb2:¬(c=i+m):=by omega
 have hb3:(i:Int)≤(n:Int)+(m:Int):=by omega
 have hb4:¬(c=i):=by omega
 have hcp1:∀ ty dc sc,(Builtin.copy_ #[30,30] ty #[.slice (some ⟨b,off+(i+m) * 4,none⟩) (n+m - (i+m)) dc,.slice (some ⟨b,off+i * 4,none⟩) (n+m - i) sc]).run Tryz.prog w.drew=.ok (goInt (Nat.min (n+m - i) (n+m - (i+m)))) (w.drew.setCells b (off+(i+m) * 4) (cs.drop (i * 4))):=fun ty dc sc =>
  run_copy_cellsG w.drew _ _ ty 65 b (off+(i+m) * 4) (n+m - (i+m)) dc ⟨b,off+i * 4,none⟩ (n+m - i) sc (cs.drop (i * 4)) 4 Tryz.underlying30 hsz (by rw [hdl];simp only [Nat.min_def];split <;> omega)
   (fun j v hj=>by rw [Addr.add_lit,Nat.add_assoc];exact hcs (i * 4+j) v (by rwa [List.getElem?_drop] at hj))
   (fun j hj=>by rw [Nat.add_assoc];exact hsp _ (by omega)) (fun j hj=>by rw [Nat.add_assoc];exact hfz _ (by omega)) (fun v hv=>h1c v (List.mem_of_mem_drop hv))
 obtain ⟨W1,hW1⟩:∃ W1,W1=w.drew.setCells b (off+(i+m) * 4) (cs.drop (i * 4)):=⟨_,rfl⟩
 have hsp1:∀ k,k<(n+m) * 4→(W1.cell? ⟨b,off+k,none⟩).isSome=true:=fun k hk=>by
  rw [hW1]
  exact isSome_setCells b _ _ _ (fun j hj=>by rw [Nat.add_assoc];exact hsp _ (by omega)) _ (hsp k hk)
 have hcp2:∀ (W:World),(∀ x,W.cell? x=W1.cell? x)→(∀ x,W.frozen? x=W1.frozen? x)→∀ ty dc,(Builtin.copy_ #[30,30] ty #[.slice (some ⟨b,off+i * 4,none⟩) (n+m - i) dc,.slice (some ⟨vb,voff,none⟩) m vc]).run Tryz.prog W=.ok (goInt (Nat.min m (n+m - i))) (W.setCells b (off+i * 4) vs):=fun W hWc hWf ty dc =>
  run_copy_cellsG W _ _ ty 65 b (off+i * 4) (n+m - i) dc ⟨vb,voff,none⟩ m vc vs 4 Tryz.underlying30 hsz (by rw [hvl];simp only [Nat.min_def];split <;> omega)
   (fun j v hj=>by
    rw [Addr.add_lit,hWc,hW1,World.cell?_setCells_out b _ _ _ _ (fun h _=>absurd h hvb)]
    exact hvs j v hj)
   (fun j hj=>by rw [hWc,Nat.add_assoc];exact hsp1 _ (by omega)) (fun j hj=>by rw [hWf,hW1,World.frozen?_setCells,Nat.add_assoc];exact hfz _ (by omega)) h1v
 rw [← hW1] at hcp1
 go_enter Tryz.func241,Tryz.ntmps241
 go_wp2_with (simp only [hov])
 go_region_law_o (refine step_copy_runI rfl _ _ 30 30 rfl _ _ (by simp [Act.eval,Act.put]) (by simp [Act.eval,Act.put]) (hcp1 _ _ _) ?_)
 go_wp2_with (at_builtin;refine wpList_copy_runI _ rfl _ _ 30 30 rfl _ _ rfl rfl (hcp2 _ (fun _=>rfl) (fun _=>rfl) _ _) ?_)
 go_ret
 first|exact ⟨rfl,rfl⟩|exact ⟨rfl,by rw [hW1]⟩
set_option maxHeartbeats 4000000 in
set_option maxRecDepth 100000 in
theorem insI_grow (b off n c i vb voff m vc:Nat) (cs vs:List Value) (w:World) (hi:i<n) (hm:0<m) (hnc:n≤c) (hroom:c<n+m) (hbig:(n+m) * 56≤140737488355328)
  (hcl:cs.length=n * 4) (hvl:vs.length=m * 4)
  (hcs:∀ j v,cs[j]?=some v→w.cell? ⟨b,off+j,none⟩=some v)
  (hvs:∀ j v,vs[j]?=some v→w.cell? ⟨vb,voff+j,none⟩=some v) (h1c:∀ v∈cs,v.oneCell'=true) (h1v:∀ v∈vs,v.oneCell'=true) :
  Calls Tryz.prog 241 #[.slice (some ⟨b,off,none⟩) n c,.int .i64 i,.slice (some ⟨vb,voff,none⟩) m vc] w fun e w' =>
   ∃ (G:Nat) (ROW:Array Value),n+m≤G∧G≤maxLen∧ROW.size=G * 4∧ROW.toList.take (i * 4)=cs.take (i * 4)∧e=.returned (.slice (some ⟨w.heap.size,0,none⟩) (n+m) G) ∧
   w'=(((w.alloc (.cells ROW 65)).drew.setCells w.heap.size (i * 4) vs).drew).setCells w.heap.size ((i+m) * 4) (cs.drop (i * 4)):=by
 obtain ⟨i0,hi0,hz0,hzs,hzb⟩:=info_parts info_itemCells
 have mixed:Tryz.prog.follows Departure.mixedOrders=true:=by kernel_rfl
 have hz1:¬((m:Int)=0):=by omega
 have hz2:¬((i:Int)=(n:Int)):=by omega
 have hz3:(c:Int)<(n:Int)+(m:Int):=by omega
 have hsz:(Tryz.prog.info? 65).map (·.size)=some 4:=by rw [hi0];simp [hzs]
 have hbw:b<w.heap.size:=block_lt_of_cell (hcs 0 _ (List.getElem?_eq_getElem (by omega)))
 have hvw:vb<w.heap.size:=block_lt_of_cell (hvs 0 _ (List.getElem?_eq_getElem (by omega)))
 have hkk:(n:Int)+(m:Int) - (i:Int)=((n+m - i:Nat):Int):=by omega
 have hik:i+(n+m - i)=n+m:=by omega
 have hold:(Builtin.firstCells i0.size i (.slice (some ⟨b,off,none⟩) i c)).run Tryz.prog w.drew=.ok (cs.take (i * 4)).toArray w.drew:=by
  rw [hzs]
  exact run_firstCells_some w.drew 4 i ⟨b,off,none⟩ i c (cs.take (i * 4)) (by rw [List.length_take];omega) (fun j v hj=>by
   rw [Addr.add_lit]
   rw [List.getElem?_take] at hj
   split at hj
   ·exact hcs j v hj
   ·cases hj)
 have hGt:n+m≤grownCap w (n+m) c 65:=grownCap_ge w _ _ _
 have hGm:=grownCap_le_maxLen w (n+m) c 65 (by unfold maxLen;omega)
 have hrz:∀ ty,(Builtin.append_ #[30,3] ty #[.slice (some ⟨b,off,none⟩) i c,.int .i64 ((n:Int)+(m:Int) - (i:Int))]).run Tryz.prog w =
   .ok (.slice (some ⟨w.heap.size,0,none⟩) (n+m) (grownCap w (n+m) c 65)) (w.drew.alloc (.cells ((cs.take (i * 4)).toArray++Builtin.zeroCells (Value.agg #[.string ByteArray.empty,.int .i64 0,.int .i64 0,.slice none 0 0]).cells (n+m - i)++Builtin.zeroCells (Value.agg #[.string ByteArray.empty,.int .i64 0,.int .i64 0,.slice none 0 0]).cells (grownCap w (n+m) c 65 - (n+m))) 65)):=fun ty=>by
  have h:=Lib.run_append_grow_zeros w 30 3 ty 65 i0 _ .i64 .i64 Tryz.underlying30 Tryz.underlying3 hi0 hz0 (some ⟨b,off,none⟩) i c (cs.take (i * 4)) hold (n+m - i) (by omega) (by omega) (by omega) (by omega) (by rw [hzb];omega) (by rw [hzb,hik];exact growslice_fits hroom hbig)
  rw [hik] at h
  rw [hkk]
  exact h
 obtain ⟨G,hG⟩:∃ G,G=grownCap w (n+m) c 65:=⟨_,rfl⟩
 rw [← hG] at hrz hGt hGm
 obtain ⟨ROW,hROW⟩:∃ ROW:Array Value,ROW=(cs.take (i * 4)).toArray++Builtin.zeroCells (Value.agg #[.string ByteArray.empty,.int .i64 0,.int .i64 0,.slice none 0 0]).cells (n+m - i)++Builtin.zeroCells (Value.agg #[.string ByteArray.empty,.int .i64 0,.int .i64 0,.slice none 0 0]).cells (G - (n+m)):=⟨_,rfl⟩
 rw [← hROW] at hrz
 have hRs:ROW.size=G * 4:=by
  rw [hROW]
  simp [Builtin.zeroCells,Value.cells,hcl]
  omega
 have hRt:ROW.toList.take (i * 4)=cs.take (i * 4):=by
  rw [hROW,Array.toList_append,Array.toList_append,List.append_assoc,List.take_append_of_le_length (by simp [hcl];omega),List.take_of_length_le (by rw [List.length_take];omega)]
 have hRl:(n+m) * 4≤ROW.size:=by rw [hRs];omega
 obtain ⟨W1,hW1⟩:∃ W1,W1=w.drew.alloc (.cells ROW 65):=⟨_,rfl⟩
 rw [← hW1] at hrz
 have hN:∀ j,j<(n+m) * 4→(W1.cell? ⟨w.heap.size,j,none⟩).isSome=true:=fun j hj=>by
  rw [hW1,World.cell?_alloc_at (w:=w.drew) ROW _ w.heap.size j rfl,Array.getElem?_eq_getElem (by omega)];rfl
 have hNf:∀ j,W1.frozen? ⟨w.heap.size,j,none⟩=false:=fun j=>by rw [hW1];exact World.frozen?_alloc_at (w:=w.drew) ROW _ w.heap.size j rfl
 have hOb:∀ j v,w.cell? ⟨b,j,none⟩=some v→W1.cell? ⟨b,j,none⟩=some v:=fun j v h=>by rw [hW1,World.cell?_alloc_past (w:=w.drew) _ b j hbw];exact h
 have hOv:∀ j v,w.cell? ⟨vb,j,none⟩=some v→W1.cell? ⟨vb,j,none⟩=some v:=fun j v h=>by rw [hW1,World.cell?_alloc_past (w:=w.drew) _ vb j hvw];exact h
 have hcpA:∀ (W:World),(∀ x,W.cell? x=W1.cell? x)→(∀ x,W.frozen? x=W1.frozen? x)→∀ ty dc,(Builtin.copy_ #[30,30] ty #[.slice (some ⟨w.heap.size,i * 4,none⟩) (n+m - i) dc,.slice (some ⟨vb,voff,none⟩) m vc]).run Tryz.prog W=.ok (goInt (Nat.min m (n+m - i))) (W.setCells w.heap.size (i * 4) vs):=fun W hWc hWf ty dc =>
  run_copy_cellsG W _ _ ty 65 w.heap.size (i * 4) (n+m - i) dc ⟨vb,voff,none⟩ m vc vs 4 Tryz.underlying30 hsz (by rw [hvl];simp only [Nat.min_def];split <;> omega)
   (fun j v hj=>by rw [Addr.add_lit,hWc];exact hOv _ v (hvs j v hj))
   (fun j hj=>by rw [hWc];exact hN _ (by omega)) (fun j hj=>by rw [hWf];exact hNf _) h1v
 have hG63:G≤9223372036854775807:=by
  have:=hGm
  unfold maxLen at this
  omega
 have hGi:¬(G=i):=by omega
 have hGim:¬(G=i+m):=by omega
 have hci:¬(c=i):=by omega
 have hbN:b≠w.heap.size:=by omega
 have hdl:(cs.drop (i * 4)).length=(n - i) * 4:=by rw [List.length_drop,hcl];omega
 have hcpB:∀ (W:World),(∀ x,W.cell? x=(W1.setCells w.heap.size (i * 4) vs).cell? x)→(∀ x,W.frozen? x=(W1.setCells w.heap.size (i * 4) vs).frozen? x)→∀ ty dc sc,(Builtin.copy_ #[30,30] ty #[.slice (some ⟨w.heap.size,(i+m) * 4,none⟩) (n+m - (i+m)) dc,.slice (some ⟨b,off+i * 4,none⟩) (n - i) sc]).run Tryz.prog W=.ok (goInt (Nat.min (n - i) (n+m - (i+m)))) (W.setCells w.heap.size ((i+m) * 4) (cs.drop (i * 4))):=fun W hWc hWf ty dc sc =>
  run_copy_cellsG W _ _ ty 65 w.heap.size ((i+m) * 4) (n+m - (i+m)) dc ⟨b,off+i * 4,none⟩ (n - i) sc (cs.drop (i * 4)) 4 Tryz.underlying30 hsz (by rw [hdl];simp only [Nat.min_def];split <;> omega)
   (fun j v hj=>by
    rw [Addr.add_lit,hWc,World.cell?_setCells_out _ _ _ _ _ (fun h _=>absurd h hbN),Nat.add_assoc]
    exact hOb _ v (hcs (i * 4+j) v (by rwa [List.getElem?_drop] at hj)))
   (fun j hj=>by rw [hWc];exact isSome_setCells _ _ _ _ (fun t ht=>hN _ (by omega)) _ (hN _ (by omega)))
   (fun j hj=>by rw [hWf,World.frozen?_setCells];exact hNf _) (fun v hv=>h1c v (List.mem_of_mem_drop hv))
 subst hW1
 have hE1:∀ x,((w.alloc (.cells ROW 65)).drew).cell? x=(w.drew.alloc (.cells ROW 65)).cell? x:=fun x=>rfl
 have hE2:∀ x,((w.alloc (.cells ROW 65)).drew).frozen? x=(w.drew.alloc (.cells ROW 65)).frozen? x:=fun x=>rfl
 have hF1:∀ x,(((w.alloc (.cells ROW 65)).drew.setCells w.heap.size (i * 4) vs).drew).cell? x=((w.drew.alloc (.cells ROW 65)).setCells w.heap.size (i * 4) vs).cell? x:=fun x=>rfl
 have hF2:∀ x,(((w.alloc (.cells ROW 65)).drew.setCells w.heap.size (i * 4) vs).drew).frozen? x=((w.drew.alloc (.cells ROW 65)).setCells w.heap.size (i * 4) vs).frozen? x:=fun x=>rfl
 have hw1:IntKind.i64.wrap ((i:Int)+(m:Int))=(i:Int)+(m:Int):=by rw [IntKind.wrap_i64];omega
 have hb1:(0:Int)≤(i:Int)+(m:Int):=by omega
 have hin:i≤n:=by omega
 have htn:((i:Int)+(m:Int)).toNat=i+m:=by omega
 have hb3:(i:Int)≤(n:Int):=by omega
 refine Calls.mono (R:=fun e w'=>e=.returned (.slice (some ⟨w.heap.size,0,none⟩) (n+m) G)∧w'=(((w.alloc (.cells ROW 65)).drew.setCells w.heap.size (i * 4) vs).drew).setCells w.heap.size ((i+m) * 4) (cs.drop (i * 4))) ?_ (fun e w' h=>⟨G,ROW,hGt,hGm,hRs,hRt,h.1,h.2⟩)
 clear hkk hik hold hROW hG hRl hRs hRt
 go_enter Tryz.func241,Tryz.ntmps241
 go_wp2_with (first
  |(at_builtin;refine Lib.wpList_append_run _ rfl _ _ _ _ rfl _ _ rfl rfl _ _ (hrz _) ?_)
  |(at_builtin;refine wpList_copy_runI _ rfl _ _ 30 30 rfl _ _ rfl rfl (hcpA _ hE1 hE2 _ _) ?_)
  |(at_builtin;refine wpList_copy_runI _ rfl _ _ 30 30 rfl _ _ rfl rfl (hcpB _ (fun _=>rfl) (fun _=>rfl) _ _ _) ?_))
 go_region_law_o (refine step_copy_runI rfl _ _ 30 30 rfl (.slice (some ⟨w.heap.size,(i+m) * 4,none⟩) (n+m - (i+m)) (G - (i+m))) (.slice (some ⟨b,off+i * 4,none⟩) (n - i) (c - i)) (by simp [Act.eval,Act.put]) (by simp [Act.eval,Act.put]) (hcpB _ hF1 hF2 3 (G - (i+m)) (c - i)) ?_)
 go_wp2
 go_ret
 exact ⟨rfl,rfl⟩
set_option maxHeartbeats 4000000 in
set_option maxRecDepth 100000 in
theorem insI_end (base n c vb:Nat) (A:Option Addr) (tv:TypeId) (xs:List Value) (a0 a1 a2 a3:Value) (w:World) (hO:w.ownsRow base 65 4 (.slice A n c) n xs) (hn:n≤16777216)
  (hv:w.heap[vb]?=some (.cells #[a0,a1,a2,a3] tv (0,0))) (h1:∀ u∈[a0,a1,a2,a3],u.oneCell'=true) (hb:base≤w.heap.size) :
  Calls Tryz.prog 241 #[.slice A n c,.int .i64 n,.slice (some ⟨vb,0,none⟩) 1 1] w fun e w'=>∃ A' c',e=.returned (.slice A' (n+1) c') ∧
   w'.ownsRow base 65 4 (.slice A' (n+1) c') (n+1) (xs++[a0,a1,a2,a3])∧w.grownBy w' (Value.slice A n c).ownBlock:=by
 obtain ⟨i0,hi0,hz0,hzs,hzb⟩:=info_parts info_itemCells
 have mixed:Tryz.prog.follows Departure.mixedOrders=true:=by kernel_rfl
 obtain ⟨hnc,hc63⟩:=own_capG hO
 have hR:Reads w (vb+1) 4 (some ⟨vb,0,none⟩) 1 [a0,a1,a2,a3]:=⟨rfl,fun _=>⟨_,rfl,by show vb<vb+1;omega,fun j v hj=>by
  have hc:=(blk_cells hv j).1
  rw [Addr.add_lit,Nat.zero_add,hc]
  simpa using hj⟩⟩
 go_enter Tryz.func241,Tryz.ntmps241
 rcases A with _|⟨ab,ao,asp⟩
 ·have hn0:n=0:=by
   rcases hO.2 with ⟨hv0,h0⟩|⟨g',cap,cur,hv0,_⟩
   ·exact h0
   ·injection hv0 with e1;cases e1
  have hc0:c=0:=by
   rcases hO.2 with ⟨hv0,h0⟩|⟨g',cap,cur,hv0,_⟩
   ·injection hv0 with _ _ e3
   ·injection hv0 with e1;cases e1
  subst hn0 hc0
  go_wp2_with (at_builtin;refine wpList_append_any w rfl _ _ 30 rfl base 65 i0 _ 4 56 Tryz.underlying30 hi0 hz0 hzs hzb rfl (by omega) _ 0 _ rfl hO _ _ 1 1 _ rfl hR h1 (by unfold maxLen;omega) (by omega) hb ?_;intro v' w' h2 hg hv')
  go_ret
  obtain ⟨A',c',rfl⟩:=own_slice h2
  exact ⟨A',c',rfl,h2,hg⟩
 ·go_wp2_with (at_builtin;refine wpList_append_any w rfl _ _ 30 rfl base 65 i0 _ 4 56 Tryz.underlying30 hi0 hz0 hzs hzb rfl (by omega) _ n _ rfl hO _ _ 1 1 _ rfl hR h1 (by unfold maxLen;omega) (by omega) hb ?_;intro v' w' h2 hg hv')
  all_goals (
   go_ret
   obtain ⟨A',c',rfl⟩:=own_slice h2
   exact ⟨A',c',rfl,h2,hg⟩)
theorem flat_ins (L:List RItem) (r:RItem) (i:Nat) (hi:i≤L.length):(L.take i++r :: L.drop i).flatMap itemCells=(L.flatMap itemCells).take (i * 4)++(itemCells r++(L.flatMap itemCells).drop (i * 4)):=by
 rw [flat_take itemCells_len,flat_drop itemCells_len _ _ hi,List.flatMap_append,List.flatMap_cons]
theorem ins_item (base n c i vb:Nat) (A:Option Addr) (tv:TypeId) (L:List RItem) (r:RItem) (w:World) (hO:w.ownsRow base 65 4 (.slice A n c) n (L.flatMap itemCells)) (hn:n≤16777215) (hi:i≤n)
  (hv:w.heap[vb]?=some (.cells #[.string r.x.nm,.int .i64 r.x.d,.int .i64 r.x.f,.slice r.A r.x.ss.length r.c] tv (0,0))) (hne:(Value.slice A n c).ownBlock≠some vb) (hb:base≤w.heap.size) :
  Calls Tryz.prog 241 #[.slice A n c,.int .i64 i,.slice (some ⟨vb,0,none⟩) 1 1] w fun e w'=>∃ A' c',e=.returned (.slice A' (n+1) c') ∧
   w'.ownsRow base 65 4 (.slice A' (n+1) c') (n+1) ((L.take i++r :: L.drop i).flatMap itemCells)∧w.grownBy w' (Value.slice A n c).ownBlock:=by
 have hxl:(L.flatMap itemCells).length=n * 4:=hO.1
 have hLl:L.length=n:=by rw [flat_len itemCells_len] at hxl;omega
 have h1v:∀ u∈([.string r.x.nm,.int .i64 r.x.d,.int .i64 r.x.f,.slice r.A r.x.ss.length r.c]:List Value),u.oneCell'=true:=itemCells_one1 r
 have h1c:=itemCells_one L
 rw [flat_ins L r i (by omega)]
 show Calls _ _ _ _ (fun e w'=>∃ A' c',e=.returned (.slice A' (n+1) c')∧w'.ownsRow base 65 4 (.slice A' (n+1) c') (n+1) ((L.flatMap itemCells).take (i * 4)++([.string r.x.nm,.int .i64 r.x.d,.int .i64 r.x.f,.slice r.A r.x.ss.length r.c]++(L.flatMap itemCells).drop (i * 4)))∧w.grownBy w' (Value.slice A n c).ownBlock)
 generalize L.flatMap itemCells=xs at *
 by_cases hin:i=n
 ·subst hin
  rw [List.take_of_length_le (by omega),List.drop_eq_nil_of_le (by omega),List.append_nil]
  exact insI_end base i c vb A tv xs _ _ _ _ w hO (by omega) hv h1v hb
 ·obtain ⟨g,cap,hv0,hbg,hglt⟩:=hO.form (by omega)
  have hA:A=some ⟨g,0,none⟩:=by injection hv0
  subst hA
  clear hv0
  obtain ⟨cur,hblk,hcs,hcm,_⟩:=own_block hO
  obtain ⟨hnc,hc63⟩:=own_capG hO
  have hvlt:=blk_lt hv
  have hob:(Value.slice (some ⟨g,0,none⟩) n c).ownBlock=some g:=rfl
  rw [hob] at hne ⊢
  have hne':vb≠g:=fun h=>hne (by rw [h])
  have hcell:∀ j v,xs[j]?=some v→w.cell? ⟨g,0+j,none⟩=some v:=by
   intro j v hj
   have hjl:j<n * 4:=by have:=(List.getElem?_eq_some_iff.1 hj).1;omega
   rw [Nat.zero_add,hO.cellAt j (by omega)]
   exact hj
  have hvs:∀ j v,([.string r.x.nm,.int .i64 r.x.d,.int .i64 r.x.f,.slice r.A r.x.ss.length r.c]:List Value)[j]?=some v→w.cell? ⟨vb,0+j,none⟩=some v:=by
   intro j v hj
   rw [Nat.zero_add,(blk_cells hv j).1]
   simpa using hj
  by_cases hroom:n+1≤c
  ·obtain ⟨ys,hyl,hyt,hOy⟩:=own_room hO hroom
   have hsp:∀ j,j<(n+1) * 4→(w.cell? ⟨g,0+j,none⟩).isSome=true:=by
    intro j hj
    rw [Nat.zero_add,hOy.cellAt j (by omega),List.getElem?_eq_getElem (by omega)];rfl
   refine (insI_shift g 0 n c i vb 0 1 1 xs _ w (by omega) (by omega) hroom (by omega) hne' hxl rfl hcell hsp (fun j _=>hO.frozenAt _) hvs h1c h1v tv 65 4 cur.size (shape_of hv) (shape_of hblk) (by omega) (blk_cells hv 0).2 (blk_cells hv 4).2).mono ?_
   rintro e w' ⟨rfl,rfl⟩
   have hdl:(xs.drop (i * 4)).length=(n - i) * 4:=by rw [List.length_drop,hxl];omega
   have h:=own_setCellsG (xs.drop (i * 4)) (0+(i+1) * 4) w.drew ys hOy.drew (by omega)
   have k:=own_setCellsG [.string r.x.nm,.int .i64 r.x.d,.int .i64 r.x.f,.slice r.A r.x.ss.length r.c] (0+i * 4) _ _ h.1 (by simp;omega)
   refine ⟨_,c,rfl,?_,only_trans (only_trans (grown_drewN w 1 _) h.2) k.2⟩
   have hk:=k.1
   have hy:=lay_shift (size:=4) (ys:=ys) (cs:=xs) (vs:=[.string r.x.nm,.int .i64 r.x.d,.int .i64 r.x.f,.slice r.A r.x.ss.length r.c]) (i:=i) (n:=n) (by omega) hyt (by omega) rfl
   simp only [Nat.zero_add] at hk ⊢
   rw [hy] at hk
   exact hk
  ·refine (insI_grow g 0 n c i vb 0 1 1 xs _ w (by omega) (by omega) hnc (by omega) (by omega) hxl rfl hcell hvs h1c h1v).mono ?_
   rintro e w' ⟨G,ROW,hG1,hG2,hRs,hRt,rfl,rfl⟩
   have h0:(w.alloc (.cells ROW 65)).drew.ownsRow base 65 4 (.slice (some ⟨w.heap.size,0,none⟩) (n+1) G) (n+1) (ROW.toList.take ((n+1) * 4)) :=
    (own_new (w:=w) hb hG1 hG2 hRs (by rw [List.length_take,Array.length_toList,hRs];omega) rfl).drew
   have h:=own_setCellsG [.string r.x.nm,.int .i64 r.x.d,.int .i64 r.x.f,.slice r.A r.x.ss.length r.c] (i * 4) _ _ h0 (by simp;omega)
   have k:=own_setCellsG (xs.drop (i * 4)) ((i+1) * 4) _ _ h.1.drew (by rw [List.length_drop];omega)
   refine ⟨_,G,rfl,?_,?_⟩
   ·have hk:=k.1
    refine cast (congrArg _ ?_) hk
    have hz:(ROW.toList.take ((n+1) * 4)).length=(n+1) * 4:=by rw [List.length_take,Array.length_toList,hRs];omega
    generalize hQ:ROW.toList.take ((n+1) * 4)=Q at *
    have hQi:Q.take (i * 4)=xs.take (i * 4):=by rw [← hQ,List.take_take,Nat.min_eq_left (by omega),hRt]
    have hil:(Q.take (i * 4)).length=i * 4:=by rw [List.length_take];omega
    generalize hV:([.string r.x.nm,.int .i64 r.x.d,.int .i64 r.x.f,.slice r.A r.x.ss.length r.c]:List Value)=V at *
    have hVl:V.length=4:=by rw [← hV];rfl
    have e1:(Q.take (i * 4)++(V++Q.drop (i * 4+V.length))).take ((i+1) * 4)=xs.take (i * 4)++V:=by
     rw [← List.append_assoc,List.take_append_of_le_length (by rw [List.length_append,hil,hVl];omega),List.take_of_length_le (by rw [List.length_append,hil,hVl];omega),hQi]
    have e2:(Q.take (i * 4)++(V++Q.drop (i * 4+V.length))).drop ((i+1) * 4+(xs.drop (i * 4)).length)=[]:=List.drop_eq_nil_of_le (by simp only [List.length_append,List.length_drop,hil,hxl,hz,hVl];omega)
    rw [e1,e2]
    simp
   ·refine grown_of_below ?_ _
    have hB:Below w.heap.size w (w.alloc (.cells ROW 65)).drew:=(Below.alloc (Below.refl _ _) (Nat.le_refl _) _).drew
    exact (bel_setCells (Nat.le_refl _) _ _ _ (bel_setCells (Nat.le_refl _) _ _ _ hB).drew)
end
open Go.ChangeShapes Go.WideShapes Go.ChangeAt Go.RowKit
set_option linter.unusedVariables false
set_option maxRecDepth 10000
def dropped (P:List PItem) (name:ByteArray):List PItem×Bool :=
 if catOk P=true then match idxNm P name with|some k=>(P.take k++P.drop (k+1),true)|none=>(P,false) else (P,false)
theorem dropped_no1 {P:List PItem} {name:ByteArray} (h:catOk P=false):dropped P name=(P,false):=by unfold dropped;rw [h];simp
theorem dropped_no2 {P:List PItem} {name:ByteArray} (h:idxNm P name=none):dropped P name=(P,false):=by unfold dropped;rw [h];split <;> rfl
theorem dropped_yes {P:List PItem} {name:ByteArray} {k:Nat} (h:catOk P=true) (h2:idxNm P name=some k):dropped P name=(P.take k++P.drop (k+1),true):=by unfold dropped;rw [h,if_pos rfl,h2]
theorem dropped_ok (P:List PItem) (name:ByteArray) (m:Nat) (h:OkItems P m):OkItems (dropped P name).1 m:=by
 unfold dropped
 split
 ·split
  ·rename_i k _
   have hs:=sub_erase P k
   exact ⟨Nat.le_trans hs.length_le h.1,fun x hx=>h.2 x (hs.subset hx)⟩
  ·exact h
 ·exact h
def UItemsB (P:List PItem) (b:Bool) (w:World) (e:Ending) (w':World):Prop :=
 ∃ A c L,e=.returned (.tuple #[.slice A P.length c,.bool b])∧plI L=P∧OwnItems w' w.heap.size w'.heap.size A P.length c L∧Below w.heap.size w w'
theorem uitemsB_cast {P:List PItem} {b:Bool} {q:List PItem×Bool} {w w':World} {e:Ending} (h:q=(P,b)) (hu:UItemsB P b w e w'):UItemsB q.1 q.2 w e w':=by subst h;exact hu
set_option maxHeartbeats 3200000 in
theorem i_DropItem (name:ByteArray) (P:List PItem) (B:Nat) (A:Option Addr) (n c:Nat) (L:List RItem) (w:World) (hp:plI L=P) (hS:Items w B A n L) (hB:B≤w.heap.size) :
  Calls Tryz.prog 199 #[.slice A n c,.string name] w (UItemsB (dropped P name).1 (dropped P name).2 w):=by
 have hn:=hS.nb
 have hix:=fun (W:World) (hW:Below w.heap.size w W)=>i_itemNamed name P B A n c L W hp (hS.below (hW.mono hB)) (Nat.le_trans hB hW.size)
 have hco:=fun (W:World) (hW:Below w.heap.size w W)=>i_CatalogOk P B A n c L W hp (hS.below (hW.mono hB)) (Nat.le_trans hB hW.size)
 have hcp:=fun (W:World) (hW:Below w.heap.size w W)=>u_copyItems P B A n c L W hp (hS.below (hW.mono hB)) (Nat.le_trans hB hW.size)
 have HCP:=hide hcp
 clear hcp
 cases hck:catOk P
 ·have HR:=Lib.hid (dropped_no1 (name:=name) hck)
  simp only [hck] at hco
  have HIX:=hide hix
  have HCO:=hide hco
  clear hix hco hck
  go_enter Tryz.func199,Tryz.ntmps199
  go_wp2_with (first|(go_at_call 242;refine (unhide HIX _ (by exact bel)).mono ?_;rintro e w1 ⟨rfl,hb1⟩;obtain ⟨hcb1,hfb1⟩:=bcell hb1;(have hbw1:Below w.heap.size w w1:=bel))|(go_at_call 83;refine (unhide HCO _ hbw1).mono ?_;rintro e w2 ⟨rfl,hb2⟩;obtain ⟨hcb2,hfb2⟩:=bcell hb2;(have hbw2:Below w.heap.size w w2:=hbw1.trans (hb2.mono hbw1.size)))|(go_at_call 85;refine (unhide HCP _ hbw2).mono ?_;rintro e w3 ⟨A3,c3,L3,rfl,hp3,ho3,hb3⟩;obtain ⟨hcb3,hfb3⟩:=bcell hb3;(have hbw3:Below w.heap.size w w3:=hbw2.trans (hb3.mono hbw2.size))))
  refine bodyPost_ret (v:=.tuple #[.slice A3 P.length c3,.bool false]) (by simp [results,Tryz.results199,go_sem, *]) rfl ?_
  exact uitemsB_cast HR.out ⟨A3,c3,L3,rfl,hp3,ho3.wide hbw2.size (Nat.le_refl _),hbw3⟩
 ·cases hk:idxNm P name with
  |none =>
   have HR:=Lib.hid (dropped_no2 hk)
   have hI:idxI P name = -1:=by unfold idxI;rw [hk]
   simp only [hck] at hco
   simp only [hI] at hix
   have HIX:=hide hix
   have HCO:=hide hco
   clear hix hco hck hk hI
   go_enter Tryz.func199,Tryz.ntmps199
   go_wp2_with (first|(go_at_call 242;refine (unhide HIX _ (by exact bel)).mono ?_;rintro e w1 ⟨rfl,hb1⟩;obtain ⟨hcb1,hfb1⟩:=bcell hb1;(have hbw1:Below w.heap.size w w1:=bel))|(go_at_call 83;refine (unhide HCO _ hbw1).mono ?_;rintro e w2 ⟨rfl,hb2⟩;obtain ⟨hcb2,hfb2⟩:=bcell hb2;(have hbw2:Below w.heap.size w w2:=hbw1.trans (hb2.mono hbw1.size)))|(go_at_call 85;refine (unhide HCP _ hbw2).mono ?_;rintro e w3 ⟨A3,c3,L3,rfl,hp3,ho3,hb3⟩;obtain ⟨hcb3,hfb3⟩:=bcell hb3;(have hbw3:Below w.heap.size w w3:=hbw2.trans (hb3.mono hbw2.size))))
   refine bodyPost_ret (v:=.tuple #[.slice A3 P.length c3,.bool false]) (by simp [results,Tryz.results199,go_sem, *]) rfl ?_
   exact uitemsB_cast HR.out ⟨A3,c3,L3,rfl,hp3,ho3.wide hbw2.size (Nat.le_refl _),hbw3⟩
  |some k =>
   have hkP:k<P.length:=by
    unfold idxNm at hk
    exact (List.findIdx?_eq_some_iff_getElem.1 hk).1
   have hl:P.length=n:=by rw [← hp,plI_len,hS.len]
   have hI:idxI P name=k:=by unfold idxI;rw [hk]
   have HR:=Lib.hid (dropped_yes hck hk)
   have hql:(P.take k++P.drop (k+1)).length=P.length - 1:=by rw [List.length_append,List.length_take,List.length_drop];omega
   have HQL:=Lib.hid hql
   have HKP:=Lib.hid hkP
   have hPn:P.length≤16777216:=by omega
   have HPN:=Lib.hid hPn
   have hkn:k<16777216:=by omega
   simp only [hck] at hco
   simp only [hI] at hix
   have HIX:=hide hix
   have HCO:=hide hco
   clear hix hco hck hk hI hkP hl hp hql hPn
   go_enter Tryz.func199,Tryz.ntmps199
   go_wp2_with (first|(go_at_call 242;refine (unhide HIX _ (by exact bel)).mono ?_;rintro e w1 ⟨rfl,hb1⟩;obtain ⟨hcb1,hfb1⟩:=bcell hb1;(have hbw1:Below w.heap.size w w1:=bel))|(go_at_call 83;refine (unhide HCO _ hbw1).mono ?_;rintro e w2 ⟨rfl,hb2⟩;obtain ⟨hcb2,hfb2⟩:=bcell hb2;(have hbw2:Below w.heap.size w w2:=hbw1.trans (hb2.mono hbw1.size)))|(go_at_call 85;refine (unhide HCP _ hbw2).mono ?_;rintro e w3 ⟨A3,c3,L3,rfl,hp3,ho3,hb3⟩;obtain ⟨hcb3,hfb3⟩:=bcell hb3;(have hbw3:Below w.heap.size w w3:=hbw2.trans (hb3.mono hbw2.size));obtain ⟨g,cap,hv,hbg,hglt⟩:=ho3.row.form (by have:=HKP.out;omega);(have hA:A3=some ⟨g,0,none⟩:=(by injection hv));subst hA;clear hv;replace ho3:=hide ho3;replace hp3:=hide hp3)|(go_at_call 243;refine (del_item _ g _ _ k (k+1) L3 _ (unhide ho3).row HKP.out rfl HPN.out).mono ?_;rintro e w4 ⟨rfl,hr4,hg4⟩))
   have ho3:=unhide ho3
   have hp3:=unhide hp3
   have hb4:Below w3.heap.size w3 w3:=Below.refl _ _
   refine bodyPost_ret (v:=.tuple #[.slice (some ⟨g,0,none⟩) (P.length - 1) c3,.bool true]) (by simp [results,Tryz.results199,go_sem, *]) rfl ?_
   refine uitemsB_cast HR.out ⟨some ⟨g,0,none⟩,c3,L3.take k++L3.drop (k+1),by rw [HQL.out],?_,?_,?_⟩
   ·rw [← hp3];simp [plI,List.map_take,List.map_drop]
   ·rw [HQL.out]
    have h4:=ho3.erase hg4 hr4 (sub_erase L3 k)
    exact h4.wide hbw2.size (Nat.le_refl _)
   ·exact hbw2.trans ((hb3.trans (grown_below hg4 (by intro q hq;injection hq with hq;omega) (by have:=hb3.size;omega))).mono hbw2.size)
def nmLt (a b:ByteArray):Bool:=Op.bytesLess a.toList b.toList
def posOf:List PItem→ByteArray→Nat
 |[],_=>0
 |x :: l,nm=>if nmLt x.nm nm=true then posOf l nm+1 else 0
def allLt (P:List PItem) (nm:ByteArray) (j:Nat):Prop:=∀ i,i<j→∀ x,P[i]?=some x→nmLt x.nm nm=true
theorem allLt_zero (P:List PItem) (nm:ByteArray):allLt P nm 0:=fun i hi=>absurd hi (by omega)
theorem allLt_succ {P:List PItem} {nm:ByteArray} {j:Nat} {x:PItem} (h:allLt P nm j) (hx:P[j]?=some x) (hn:nmLt x.nm nm=true):allLt P nm (j+1):=by
 intro i hi y hy
 by_cases hij:i=j
 ·subst hij;rw [hx] at hy;injection hy with hy;subst hy;exact hn
 ·exact h i (by omega) y hy
theorem posOf_at:∀ (P:List PItem) (nm:ByteArray) (j:Nat),allLt P nm j→j≤P.length→(∀ x,P[j]?=some x→nmLt x.nm nm=false)→posOf P nm=j
 |[],nm,j,_,hj,_=>by simp at hj;subst hj;rfl
 |x :: l,nm,0,_,_,hx=>by
  have h:=hx x rfl
  unfold posOf
  rw [h];rfl
 |x :: l,nm,j+1,ha,hj,hx=>by
  have h:=ha 0 (by omega) x rfl
  unfold posOf
  rw [if_pos h,posOf_at l nm j (fun i hi y hy=>ha (i+1) (by omega) y (by simpa using hy)) (by simpa using hj) (fun y hy=>hx y (by simpa using hy))]
def insP (P:List PItem) (x:PItem) (j:Nat):List PItem:=P.take j++x :: P.drop j
theorem insP_len (P:List PItem) (x:PItem) (j:Nat) (h:j≤P.length):(insP P x j).length=P.length+1:=by
 unfold insP;rw [List.length_append,List.length_cons,List.length_take,List.length_drop];omega
theorem insP_mem {P:List PItem} {x y:PItem} {j:Nat} (h:y∈insP P x j):y=x∨y∈P:=by
 rcases List.mem_append.1 h with h|h
 ·exact .inr (List.mem_of_mem_take h)
 ·rcases List.mem_cons.1 h with h|h
  ·exact .inl h
  ·exact .inr (List.mem_of_mem_drop h)
def added (P:List PItem) (x:PItem):List PItem×Bool :=
 if catOk P=true then if catOk (insP P x (posOf P x.nm))=true then (insP P x (posOf P x.nm),true) else (P,false) else (P,false)
theorem added_no1 {P:List PItem} {x:PItem} (h:catOk P=false):added P x=(P,false):=by unfold added;rw [h];rfl
theorem added_no2 {P:List PItem} {x:PItem} {j:Nat} (hj:posOf P x.nm=j) (h:catOk (insP P x j)=false):added P x=(P,false):=by unfold added;rw [hj,h];split <;> rfl
theorem added_yes {P:List PItem} {x:PItem} {j:Nat} (hj:posOf P x.nm=j) (hc:catOk P=true) (h:catOk (insP P x j)=true):added P x=(insP P x j,true):=by unfold added;rw [hj,h,hc];rfl
theorem catOk_len {P:List PItem} (h:catOk P=true):P.length≤20:=by
 unfold catOk at h
 simp only [Bool.and_eq_true,decide_eq_true_eq] at h
 exact h.2
theorem added_ok (P:List PItem) (x:PItem) (m:Nat) (h:OkItems P m) (hx:x.ss.length≤m∧(∀ s∈x.ss,s.size≤16777216)∧x.nm.size≤16777216) (hm:20≤m):OkItems (added P x).1 m:=by
 unfold added
 split
 ·split
  ·rename_i hc hq
   refine ⟨Nat.le_trans (catOk_len hq) hm,fun y hy=>?_⟩
   rcases insP_mem hy with rfl|hy
   ·exact hx
   ·exact h.2 y hy
  ·exact h
 ·exact h
theorem insP_ok {P:List PItem} {x:PItem} {j:Nat} (h:OkItems P 16777216) (hn:P.length≤16777215) (hx:x.ss.length≤16777216∧(∀ s∈x.ss,s.size≤16777216)∧x.nm.size≤16777216) (hj:j≤P.length):OkItems (insP P x j) 16777216:=by
 refine ⟨by rw [insP_len _ _ _ hj];omega,fun y hy=>?_⟩
 rcases insP_mem hy with rfl|hy
 ·exact hx
 ·exact h.2 y hy
theorem plI_ins (L:List RItem) (r:RItem) (j:Nat):plI (L.take j++r :: L.drop j)=insP (plI L) r.x j:=by simp [plI,insP,List.map_take,List.map_drop]
theorem OwnItems.ins {w w':World} {lo mid n c N c' j:Nat} {A A':Option Addr} {L:List RItem} {r:RItem} (ho:OwnItems w lo mid A n c L) (hr:OwnS w mid w.heap.size r.A r.c r.x.ss) (hle:lo≤mid) (hm:mid≤w.heap.size)
  (hg:w.grownBy w' (Value.slice A n c).ownBlock) (h2:w'.ownsRow lo 65 4 (.slice A' N c') N ((L.take j++r :: L.drop j).flatMap itemCells)):OwnItems w' lo w'.heap.size A' N c' (L.take j++r :: L.drop j):=by
 have key:∀ s:RItem,OwnS w lo w.heap.size s.A s.c s.x.ss→OwnS w' lo w'.heap.size s.A s.c s.x.ss:=fun s hs =>
  ⟨own_grown hs.row hg (fun k hk=>by
   intro he
   exact own_ne_type hs.row ho.row (by decide) k hk he),fun k hk=>by have h1:=hs.top k hk;have h2:=hg.size;omega⟩
 have hap:=ho.apart
 have hne:∀ a∈L,∀ k,a.v.ownBlock=some k→r.v.ownBlock≠some k:=fun a ha k hk hk2=>by
  have h1:=(ho.in_ a ha).top k hk
  have h3:=(hr.row.lt k hk2).1
  omega
 rw [← List.take_append_drop j L,List.pairwise_append] at hap
 refine ⟨h2,fun k hk=>(h2.lt k hk).2,fun s hs=>?_,?_⟩
 ·rcases List.mem_append.1 hs with h|h
  ·exact key s ((ho.in_ s (List.mem_of_mem_take h)).wide (Nat.le_refl _) hm)
  ·rcases List.mem_cons.1 h with rfl|h
   ·exact key _ (hr.wide hle (Nat.le_refl _))
   ·exact key s ((ho.in_ s (List.mem_of_mem_drop h)).wide (Nat.le_refl _) hm)
 ·rw [List.pairwise_append,List.pairwise_cons]
  refine ⟨hap.1,⟨fun b hb k hk hk2=>hne b (List.mem_of_mem_drop hb) k hk2 hk,hap.2.1⟩,fun a ha b hb=>?_⟩
  rcases List.mem_cons.1 hb with rfl|hb
  ·exact hne a (List.mem_of_mem_take ha)
  ·exact hap.2.2 a ha b hb
section
variable {P:Program} (w:World)
theorem step_append_G {ops:Array Oper} {o:Oper} {a:Act} {K:Act→World→Prop} {Q:Exit→Act→World→Prop} {E:Prop} (hgd:o.guard=none) (s x:Operand) (t:TypeId)
  (ho:o.op=.call { callee:=.builtin .append,args:=#[s,x],argTypes:=#[t,t] })
  (base:Nat) (e:TypeId) (i:TypeInfo) (z:Value) (size bytes:Nat) (ht:P.underlying t=some (.slice e)) (hi:P.info? e=some i) (hz:i.zero=some z)
  (hsize:i.size=size) (hby:i.bytes=bytes) (hzs:z.cells.size=size) (hsz:0<size)
  (v:Value) (n:Nat) (xs:List Value) (hs:a.eval s=v) (hown:w.ownsRow base e size v n xs)
  (B:Nat) (A:Option Addr) (m c:Nat) (news:List Value) (hx:a.eval x=.slice A m c) (hr:Reads w B size A m news) (h1:∀ u∈news,u.oneCell'=true)
  (h63:n+m≤maxLen) (hbytes:(n+m) * bytes≤140737488355328) (hbase:base≤w.heap.size)
  (N:Nat) (ys:List Value) (hN:n+m=N) (hys:xs++news=ys)
  (h:∀ A' c' w',w'.ownsRow base e size (.slice A' N c') N ys→w.grownBy w' v.ownBlock→(∀ k,(Value.slice A' N c').ownBlock=some k→v.ownBlock=some k∨k=w.heap.size)→K (a.put o.dst (.slice A' N c')) w') :
  if Region.wanted o (yielded ops a.tmps)=true then Oper.wp P o a w K Q else E:=by
 refine step_append_any w hgd s x t ho base e i z size bytes ht hi hz hsize hby hzs hsz v n xs hs hown B A m c news hx hr h1 h63 hbytes hbase ?_
 subst hN;subst hys
 intro v' w' h2 hg hv
 obtain ⟨A',c',rfl⟩:=own_slice h2
 refine h A' c' w' h2 hg fun k hk=>?_
 rcases hv with hv|hv
 ·exact .inl (hv.symm.trans hk)
 ·rw [hk] at hv;injection hv with hv;exact .inr hv
end
theorem s_l35CopyN (B:Nat) (A:Option Addr) (n c:Nat) (L:List RItem) (w:World) (hS:Items w B A n L) (hB:B≤w.heap.size) :
  Calls Tryz.prog 173 #[.slice A n c] w fun e w'=>∃ A' c' L',e=.returned (.slice A' n c')∧plI L'=plI L∧OwnItems w' w.heap.size w'.heap.size A' n c' L'∧Below w.heap.size w w':=by
 have hl:(plI L).length=n:=by rw [plI_len,hS.len]
 refine (u_l35Copy (plI L) B A n c L w rfl hS hB).mono ?_
 rintro e w' ⟨A',c',L',h1,h2,h3,h4⟩
 rw [hl] at h1 h3
 exact ⟨A',c',L',h1,h2,h3,h4⟩
open Go.ChangeShapes Go.WideShapes Go.ChangeAt Go.RowKit
set_option linter.unusedVariables false
set_option linter.unusedSimpArgs false
set_option maxRecDepth 10000
theorem OwnItems.join2 {w w':World} {lo hi lo2 hi2 n c m c2 N c':Nat} {A A2 A':Option Addr} {L M:List RItem} (ho:OwnItems w lo hi A n c L) (ho2:OwnItems w lo2 hi2 A2 m c2 M) (hle:lo≤lo2) (hm:hi≤w.heap.size) (hm2:hi2≤w.heap.size)
  (hap:∀ a∈L,∀ b∈M,∀ k,a.v.ownBlock=some k→b.v.ownBlock≠some k)
  (hg:w.grownBy w' (Value.slice A n c).ownBlock) (h2:w'.ownsRow lo 65 4 (.slice A' N c') N (L.flatMap itemCells++M.flatMap itemCells)):OwnItems w' lo w'.heap.size A' N c' (L++M):=by
 have key:∀ s:RItem,OwnS w lo w.heap.size s.A s.c s.x.ss→OwnS w' lo w'.heap.size s.A s.c s.x.ss:=fun s hs =>
  ⟨own_grown hs.row hg (fun k hk=>by
   intro he
   exact own_ne_type hs.row ho.row (by decide) k hk he),fun k hk=>by have h1:=hs.top k hk;have h2:=hg.size;omega⟩
 refine ⟨by rw [List.flatMap_append];exact h2,fun k hk=>(h2.lt k hk).2,fun s hs=>?_,?_⟩
 ·rcases List.mem_append.1 hs with h|h
  ·exact key s ((ho.in_ s h).wide (Nat.le_refl _) hm)
  ·exact key s ((ho2.in_ s h).wide hle hm2)
 ·rw [List.pairwise_append]
  exact ⟨ho.apart,ho2.apart,hap⟩
theorem OwnItems.append_in {w w':World} {lo mid hi n c c':Nat} {A A':Option Addr} {L:List RItem} {r:RItem} (ho:OwnItems w lo mid A n c L) (hr:OwnS w mid hi r.A r.c r.x.ss) (h1:lo≤mid) (h2:mid≤w.heap.size) (h3:hi≤w.heap.size)
  (hg:w.grownBy w' (Value.slice A n c).ownBlock) (h4:w'.ownsRow lo 65 4 (.slice A' (n+1) c') (n+1) (L.flatMap itemCells++itemCells r)):OwnItems w' lo w'.heap.size A' (n+1) c' (L++[r]) :=
 (ho.wide (Nat.le_refl _) h2).append (hr.wide h1 h3) (fun s hs k hk hk2=>by have q1:=(ho.in_ s hs).top k hk;have q2:=(hr.row.lt k hk2).1;omega) hg h4
theorem reads_blk4 {W:World} {p:Nat} {t:TypeId} {r:RItem} (h:W.heap[p]?=some (.cells #[.string r.x.nm,.int .i64 r.x.d,.int .i64 r.x.f,.slice r.A r.x.ss.length r.c] t (0,0))):Reads W (p+1) 4 (some ⟨p,0,none⟩) 1 (itemCells r) :=
 ⟨rfl,fun _=>⟨_,rfl,by show p<p+1;omega,fun j v hj=>by
  have hc:=(blk_cells h j).1
  rw [Addr.add_lit,Nat.zero_add,hc]
  simpa [itemCells] using hj⟩⟩
theorem Reads.of_own' {w:World} {base e size n c B:Nat} {A:Option Addr} {xs:List Value} (h:w.ownsRow base e size (.slice A n c) n xs) (hB:w.heap.size≤B):Reads w B size A n xs:=(Reads.of_own h).more hB
set_option maxHeartbeats 6400000 in
theorem s_AddItem (nm:ByteArray) (d f:Int) (Ax:Option Addr) (cx:Nat) (ss:List ByteArray) (P:List PItem) (B:Nat) (A:Option Addr) (n c:Nat) (L:List RItem) (w:World) (hp:plI L=P) (hS:Items w B A n L) (hX:Strs w B Ax ss.length ss) (hnms:nm.size≤16777216) (hB:B≤w.heap.size) (hn2:n≤16777215) (hnc:n≤c) (hc63:c≤9223372036854775807) (hA0:A=none→c=0) :
  Calls Tryz.prog 185 #[.slice A n c,.agg #[.string nm,.int .i64 d,.int .i64 f,.slice Ax ss.length cx]] w (UItemsB (added P (PItem.mk nm d f ss)).1 (added P (PItem.mk nm d f ss)).2 w):=by
 have hn:=hS.nb
 have hl:P.length=n:=by rw [← hp,plI_len,hS.len]
 have hpo:OkItems P 16777216:=by rw [← hp];exact hS.ok
 have HPO:=Lib.hid hpo
 have HL:=Lib.hid hl
 have HP:=Lib.hid hp
 obtain ⟨i0,hii,hz0,hz1,hz2⟩:=info_parts info_itemCells
 clear hl hp hpo
 have hk0:=blk_new w (.cells #[.string nm,.int .i64 d,.int .i64 f,.slice Ax ss.length cx] 65)
 cases hck:catOk P
 ·have HCK:=Lib.hid hck
  have HR:=Lib.hid (added_no1 (x:=(PItem.mk nm d f ss)) hck)
  clear hck
  go_enter Tryz.func185,Tryz.ntmps185
  go_wp2_with (first|(go_at_call 93;refine (s_CatalogOk P B _ n c L _ HP.out (hS.alloc hB _) (by simp;omega)).mono ?_;rintro e w1 ⟨rfl,hb1⟩;rw [HCK.out];(have hbw1:Below w.heap.size w w1:=((Below.refl _ _).alloc (Nat.le_refl _) _).trans (hb1.mono (by simp))))|(go_at_call 173;refine (u_l35Copy P B _ n c L _ HP.out (hS.below (hbw1.mono hB)) (Nat.le_trans hB hbw1.size)).mono ?_;rintro e w9 ⟨A9,c9,L9,rfl,hp9,ho9,hb9⟩;(have hbw9:Below w.heap.size w w9:=hbw1.trans (hb9.mono hbw1.size))))
  refine bodyPost_ret (v:=.tuple #[.slice A9 P.length c9,.bool false]) (by simp [results,Tryz.results185,go_sem, *]) rfl ?_
  exact uitemsB_cast HR.out ⟨A9,c9,L9,rfl,hp9,ho9.wide hbw1.size (Nat.le_refl _),hbw9⟩
 ·have HCK:=Lib.hid hck
  clear hck
  rcases A with _|ad
  ·have hc0:=hA0 rfl
   subst hc0
   have hn0:n=0:=by omega
   subst hn0
   clear hA0
   go_enter Tryz.func185,Tryz.ntmps185
   go_wp2_with (go_at_call 93;refine (s_CatalogOk P B _ 0 0 L _ HP.out (hS.alloc hB _) (by simp;omega)).mono ?_;rintro e w1 ⟨rfl,hb1⟩;rw [HCK.out])
   have hk1:=blk_next hk0 hb1
   have hbw1:Below w.heap.size w w1:=((Below.refl _ _).alloc (Nat.le_refl _) _).trans (hb1.mono (by simp))
   go_loopw [6] (fun i wr=>∃ j:Nat,j≤0∧i=.int .i64 j∧Hid (allLt P nm j)∧Below w1.heap.size w1 wr) (fun i _=>0 - (intOf i).toNat)
   case atStart=>exact ⟨0,Nat.zero_le _,rfl,allLt_zero _ _,Below.refl _ _⟩
   case round =>
    obtain ⟨j,hj,rfl,HN,hb⟩:=hrel
    have hkr:=blk_next hk1 hb
    have hzr:w.heap.size<wr.heap.size:=blk_lt hkr
    have hbw:Below w.heap.size w wr:=hbw1.trans (hb.mono hbw1.size)
    obtain ⟨hx0,hx1,hx2,hx3,hxl⟩:=blk4 hkr
    have hj0:j=0:=by omega
    subst hj0
    have HJ:Hid (posOf P (PItem.mk nm d f ss).nm=0):=posOf_at P nm 0 HN.out (by have:=HL.out;omega) (fun x hx=>by obtain ⟨h,_⟩:=List.getElem?_eq_some_iff.1 hx;have:=HL.out;omega)
    have hd:decide (((0:Nat):Int)<(0:Int))=false:=decide_eq_false (by omega)
    go_wp2_with fail
    go_quiet (fail)
    obtain ⟨wq,hwq⟩:∃ W,W=wr.drewN nq:=⟨_,rfl⟩
    have hbq0:Below w.heap.size w wq:=by rw [hwq];exact below_drewN hbw nq
    have hkq:wq.heap[w.heap.size]?=some (.cells #[.string nm,.int .i64 d,.int .i64 f,.slice Ax ss.length cx] 65 (0,0)):=by rw [hwq];exact hkr
    rw [← hwq]
    clear hx0 hx1 hx2 hx3 hxl hkr hb hzr hbw hwq
    obtain ⟨hx0,hx1,hx2,hx3,hxl⟩:=blk4 hkq
    go_wp2_with fail
    have hcut0:∀ W:World,Items W B none 0 L→Items W B none (0 - 0) (L.drop 0):=fun W h=>h
    have hSr:=hS.below (hbq0.mono hB)
    have hXr:=hX.below (hbq0.mono hB)
    have hwq1:=hbq0.size
    have HQL:Hid ((insP P (PItem.mk nm d f ss) 0).length=0+1):=by unfold Hid;have h1:=insP_len P (PItem.mk nm d f ss) 0 (by have:=HL.out;omega);have:=HL.out;omega
    have HQOK:Hid (OkItems (insP P (PItem.mk nm d f ss) 0) 16777216):=insP_ok HPO.out (by have:=HL.out;omega) ⟨hX.nb,hX.sb,hnms⟩ (by have:=HL.out;omega)
    have HLN:Hid (0+1+(0 - 0)=0+1):=by unfold Hid;omega
    have tok1:True:=trivial
    have hi0:(0:Int)≤(0:Int):=Int.natCast_nonneg _
    have hi1:(0:Int)≤(0:Int):=by omega
    have hi4:(0:Int)≤(0:Int):=by omega
    have hi5:(0:Int)≤(0:Int):=by omega
    go_cut [7] (fun s7 wx=>∃ (A7:Option Addr) (c7:Nat) (L7:List RItem),s7=.slice A7 (0+1) c7∧plI L7=insP P (PItem.mk nm d f ss) 0∧OwnItems wx wq.heap.size wx.heap.size A7 (0+1) c7 L7∧Below wq.heap.size wq wx)
    case first =>
     go_region_held3 (fun W=>(∀ b o,b<wq.heap.size→W.cell? ⟨b,o,none⟩=(wq).cell? ⟨b,o,none⟩)∧(∀ b o,b<wq.heap.size→W.frozen? ⟨b,o,none⟩=(wq).frozen? ⟨b,o,none⟩)∧Below (wq.heap.size) (wq) W) (exact keep_of bel) (first|(go_at_call 173;have _t:=tok1;have hq:=(‹_∧_∧Below _ _ _›).2.2;refine (s_l35CopyN B _ 0 0 (L.take 0) _ ?_ ?_).mono ?_;exact (hSr.below (hq.mono (by omega))).take hj;(first|exact Nat.le_trans (by omega) hq.size|omega);rintro e w2 ⟨A2,c2,L2,rfl,hp2,ho2,hb2⟩;clear _t tok1;have hqs2:=hq.size;have hbs2:=hb2.size;(try simp at hqs2);(try simp at hbs2);(have ho2:=ho2.wide (lo':=wq.heap.size) (hi':=w2.heap.size) (by first|exact hq.size|exact Nat.le_refl _) (Nat.le_refl _));replace hp2:=Lib.hid hp2)|(go_at_call 181;have hq:=(‹_∧_∧Below _ _ _›).2.2;refine (s_l05Copy d f B Ax ss.length cx ss _ ?_ ?_).mono ?_;exact hXr.below (hq.mono (by omega));(first|exact Nat.le_trans (by omega) hq.size|omega);rintro e w3 ⟨A3,c3,rfl,ho3,hb3⟩;have hqs3:=hq.size;have hbs3:=hb3.size;(try simp at hqs3);(try simp at hbs3);(have hos3:OwnS w3 w2.heap.size w3.heap.size A3 c3 ss:=(OwnS.of ho3 (Nat.le_refl _)).wide (by first|exact Nat.le_refl _|(simp;first|done|fail)) (Nat.le_refl _));(have ho23:OwnItems w3 wq.heap.size w2.heap.size A2 0 c2 L2:=(by refine OwnItems.below ?_ hb3;(focus ((repeat (first|(with_reducible exact ho2)|(with_reducible refine OwnItems.drew ?_)|(with_reducible refine OwnItems.alloc ?_ _)));(first|done|fail)))));(have HLT:Hid (∀ s∈L2++[(⟨⟨nm,d,f,ss⟩,A3,c3⟩:RItem)],∀ k,s.v.ownBlock=some k→k<w3.heap.size):=(by intro s hs k hk;rcases List.mem_append.1 hs with h|h;(exact Nat.lt_of_lt_of_le ((ho23.in_ s h).top k hk) (by omega));(have h9:=List.mem_singleton.1 h;subst h9;exact hos3.top k hk)));(have HNE:Hid (∀ s∈L2,∀ k,s.v.ownBlock=some k→(Value.slice A3 ss.length c3).ownBlock≠some k):=(by intro s hs k hk hk2;have h1:=(ho23.in_ s hs).top k hk;have h2:=(hos3.row.lt k hk2).1;omega));clear ho3)|(go_at_call 173;have hq:=(‹_∧_∧Below _ _ _›).2.2;refine (s_l35CopyN B _ (0 - 0) (0 - 0) (L.drop 0) _ ?_ ?_).mono ?_;exact hcut0 _ (hSr.below (hq.mono (by omega)));(first|exact Nat.le_trans (by omega) hq.size|omega);rintro e w5 ⟨A5,c5,L5,rfl,hp5,ho5,hb5⟩;have hqs5:=hq.size;have hbs5:=hb5.size;(try simp at hqs5);(try simp at hbs5);(have HGE:Hid (∀ s∈L5,∀ k,s.v.ownBlock=some k→w3.heap.size≤k):=(by intro s hs k hk;have h1:=((ho5.in_ s hs).row.lt k hk).1;(try simp at h1);omega));(have ho5:=ho5.wide (lo':=w3.heap.size) (hi':=w5.heap.size) (by first|exact Nat.le_refl _|(simp;first|done|fail)|(simp;omega)|omega) (Nat.le_refl _));replace hp5:=Lib.hid hp5;(have ho45:OwnItems w5 wq.heap.size w4.heap.size A4 (0+1) c4 (L2++[(⟨⟨nm,d,f,ss⟩,A3,c3⟩:RItem)]):=(by refine OwnItems.below ?_ hb5;(focus ((repeat (first|(with_reducible exact ho4)|(with_reducible refine OwnItems.drew ?_)|(with_reducible refine OwnItems.alloc ?_ _)));(first|done|fail))))))|(go_at_call 173;have hq:=(‹_∧_∧Below _ _ _›).2.2;refine (s_l35CopyN B _ (0 - 0) (0 - 0) (L.drop 0) _ ?_ ?_).mono ?_;exact hcut0 _ (hSr.below (hq.mono (by omega)));(first|exact Nat.le_trans (by omega) hq.size|omega);rintro e w5 ⟨A5,c5,L5,rfl,hp5,ho5,hb5⟩;have hqs5:=hq.size;have hbs5:=hb5.size;(try simp at hqs5);(try simp at hbs5);(have HGE:Hid (∀ s∈L5,∀ k,s.v.ownBlock=some k→w3.heap.size≤k):=(by intro s hs k hk;have h1:=((ho5.in_ s hs).row.lt k hk).1;(try simp at h1);omega));(have ho5:=ho5.wide (lo':=w3.heap.size) (hi':=w5.heap.size) (by first|exact Nat.le_refl _|(simp;first|done|fail)|(simp;omega)|omega) (Nat.le_refl _));replace hp5:=Lib.hid hp5;(have ho25:OwnItems w5 wq.heap.size w2.heap.size A2 0 c2 L2:=(by refine OwnItems.below ?_ hb5;(focus ((repeat (first|(with_reducible exact ho23)|(with_reducible refine OwnItems.drew ?_)|(with_reducible refine OwnItems.alloc ?_ _)));(first|done|fail)))));(have hos5:OwnS w5 w2.heap.size w3.heap.size A3 c3 ss:=(by refine OwnS.below ?_ hb5;(focus ((repeat (first|(with_reducible exact hos3)|(with_reducible refine OwnS.drew ?_)|(with_reducible refine OwnS.alloc ?_ _)));(first|done|fail))))))|(refine step_append_G _ rfl (.tmp 32) (.tmp 39) 30 rfl wq.heap.size 65 i0 _ 4 56 Tryz.underlying30 hii hz0 hz1 hz2 rfl (by omega) (.slice A2 0 c2) 0 (L2.flatMap itemCells) rfl ?_ (w3.heap.size+1) (some ⟨w3.heap.size,0,none⟩) 1 1 (itemCells (⟨⟨nm,d,f,ss⟩,A3,c3⟩:RItem)) rfl ?_ (itemCells_one1 _) ?_ ?_ ?_ (0+1) (L2.flatMap itemCells++itemCells (⟨⟨nm,d,f,ss⟩,A3,c3⟩:RItem)) rfl rfl ?_;(refine OwnItems.row (hi:=w2.heap.size) ?_;(focus ((repeat (first|(with_reducible exact ho23)|(with_reducible refine OwnItems.drew ?_)|(with_reducible refine OwnItems.alloc ?_ _)));(first|done|fail))));(refine reads_blk4 (t:=65) ?_;(focus ((repeat (first|(with_reducible exact blk_new_at _ _ (by first|rfl|(simp;first|done|fail)))|(with_reducible refine blk_drew ?_)|(with_reducible refine blk_alloc ?_ _)));(first|done|fail))));(unfold maxLen;omega);omega;(have hq:=(‹_∧_∧Below _ _ _›).2.2;first|exact hq.size|omega|(simp;omega));intro A4 c4 w4 hr4 hg4 hq4;(have ho4:OwnItems w4 wq.heap.size w4.heap.size A4 (0+1) c4 (L2++[(⟨⟨nm,d,f,ss⟩,A3,c3⟩:RItem)]):=(by refine OwnItems.append_in (r:=(⟨⟨nm,d,f,ss⟩,A3,c3⟩:RItem)) (mid:=w2.heap.size) (hi:=w3.heap.size) ?_ ?_ (by omega) (by first|omega|(simp;first|done|omega)) (by first|omega|(simp;first|done|omega)) hg4 hr4;(focus ((repeat (first|(with_reducible exact ho23)|(with_reducible refine OwnItems.drew ?_)|(with_reducible refine OwnItems.alloc ?_ _)));(first|done|fail)));(focus ((repeat (first|(with_reducible exact hos3)|(with_reducible refine OwnS.drew ?_)|(with_reducible refine OwnS.alloc ?_ _)));(first|done|fail)))));(have hq:=(‹_∧_∧Below _ _ _›).2.2;have hb4:=hq.trans (grown_below (B:=wq.heap.size) hg4 (fun k hk=>(ho23.row.lt k hk).1) hq.size));have hsz4:=hg4.size;(try simp at hsz4))|(refine step_append_G _ rfl (.tmp 32) (.tmp 39) 30 rfl wq.heap.size 65 i0 _ 4 56 Tryz.underlying30 hii hz0 hz1 hz2 rfl (by omega) (.slice A2 0 c2) 0 (L2.flatMap itemCells) rfl ?_ (w5.heap.size+1) (some ⟨w5.heap.size,0,none⟩) 1 1 (itemCells (⟨⟨nm,d,f,ss⟩,A3,c3⟩:RItem)) rfl ?_ (itemCells_one1 _) ?_ ?_ ?_ (0+1) (L2.flatMap itemCells++itemCells (⟨⟨nm,d,f,ss⟩,A3,c3⟩:RItem)) rfl rfl ?_;(refine OwnItems.row (hi:=w2.heap.size) ?_;(focus ((repeat (first|(with_reducible exact ho25)|(with_reducible refine OwnItems.drew ?_)|(with_reducible refine OwnItems.alloc ?_ _)));(first|done|fail))));(refine reads_blk4 (t:=65) ?_;(focus ((repeat (first|(with_reducible exact blk_new_at _ _ (by first|rfl|(simp;first|done|fail)))|(with_reducible refine blk_drew ?_)|(with_reducible refine blk_alloc ?_ _)));(first|done|fail))));(unfold maxLen;omega);omega;(have hq:=(‹_∧_∧Below _ _ _›).2.2;first|exact hq.size|omega|(simp;omega));intro A4 c4 w4 hr4 hg4 hq4;(have ho4:OwnItems w4 wq.heap.size w4.heap.size A4 (0+1) c4 (L2++[(⟨⟨nm,d,f,ss⟩,A3,c3⟩:RItem)]):=(by refine OwnItems.append_in (r:=(⟨⟨nm,d,f,ss⟩,A3,c3⟩:RItem)) (mid:=w2.heap.size) (hi:=w3.heap.size) ?_ ?_ (by omega) (by first|omega|(simp;first|done|omega)) (by first|omega|(simp;first|done|omega)) hg4 hr4;(focus ((repeat (first|(with_reducible exact ho25)|(with_reducible refine OwnItems.drew ?_)|(with_reducible refine OwnItems.alloc ?_ _)));(first|done|fail)));(focus ((repeat (first|(with_reducible exact hos5)|(with_reducible refine OwnS.drew ?_)|(with_reducible refine OwnS.alloc ?_ _)));(first|done|fail)))));(have hq:=(‹_∧_∧Below _ _ _›).2.2;have hb4:=hq.trans (grown_below (B:=wq.heap.size) hg4 (fun k hk=>(ho23.row.lt k hk).1) hq.size));have hsz4:=hg4.size;(try simp at hsz4);(have ho54:OwnItems w4 w3.heap.size w5.heap.size A5 (0 - 0) c5 L5:=(by refine OwnItems.grown ?_ hg4 (fun k hk=>.inl (by have h1:=ho23.top k hk;omega));(focus ((repeat (first|(with_reducible exact ho5)|(with_reducible refine OwnItems.drew ?_)|(with_reducible refine OwnItems.alloc ?_ _)));(first|done|fail))))))|(refine step_append_G _ rfl (.tmp 32) (.tmp 39) 30 rfl wq.heap.size 65 i0 _ 4 56 Tryz.underlying30 hii hz0 hz1 hz2 rfl (by omega) (.slice A2 0 c2) 0 (L2.flatMap itemCells) rfl ?_ (w3.heap.size+1) (some ⟨w3.heap.size,0,none⟩) 1 1 (itemCells (⟨⟨nm,d,f,ss⟩,A3,c3⟩:RItem)) rfl ?_ (itemCells_one1 _) ?_ ?_ ?_ (0+1) (L2.flatMap itemCells++itemCells (⟨⟨nm,d,f,ss⟩,A3,c3⟩:RItem)) rfl rfl ?_;(refine OwnItems.row (hi:=w2.heap.size) ?_;(focus ((repeat (first|(with_reducible exact ho25)|(with_reducible refine OwnItems.drew ?_)|(with_reducible refine OwnItems.alloc ?_ _)));(first|done|fail))));(refine reads_blk4 (t:=65) ?_;(focus ((repeat (first|(with_reducible exact blk_new_at _ _ (by first|rfl|(simp;first|done|fail)))|(with_reducible refine blk_drew ?_)|(with_reducible refine blk_alloc ?_ _)));(first|done|fail))));(unfold maxLen;omega);omega;(have hq:=(‹_∧_∧Below _ _ _›).2.2;first|exact hq.size|omega|(simp;omega));intro A4 c4 w4 hr4 hg4 hq4;(have ho4:OwnItems w4 wq.heap.size w4.heap.size A4 (0+1) c4 (L2++[(⟨⟨nm,d,f,ss⟩,A3,c3⟩:RItem)]):=(by refine OwnItems.append_in (r:=(⟨⟨nm,d,f,ss⟩,A3,c3⟩:RItem)) (mid:=w2.heap.size) (hi:=w3.heap.size) ?_ ?_ (by omega) (by first|omega|(simp;first|done|omega)) (by first|omega|(simp;first|done|omega)) hg4 hr4;(focus ((repeat (first|(with_reducible exact ho25)|(with_reducible refine OwnItems.drew ?_)|(with_reducible refine OwnItems.alloc ?_ _)));(first|done|fail)));(focus ((repeat (first|(with_reducible exact hos5)|(with_reducible refine OwnS.drew ?_)|(with_reducible refine OwnS.alloc ?_ _)));(first|done|fail)))));(have hq:=(‹_∧_∧Below _ _ _›).2.2;have hb4:=hq.trans (grown_below (B:=wq.heap.size) hg4 (fun k hk=>(ho23.row.lt k hk).1) hq.size));have hsz4:=hg4.size;(try simp at hsz4);(have ho54:OwnItems w4 w3.heap.size w5.heap.size A5 (0 - 0) c5 L5:=(by refine OwnItems.grown ?_ hg4 (fun k hk=>.inl (by have h1:=ho23.top k hk;omega));(focus ((repeat (first|(with_reducible exact ho5)|(with_reducible refine OwnItems.drew ?_)|(with_reducible refine OwnItems.alloc ?_ _)));(first|done|fail))))))|(refine step_append_G _ rfl (.tmp 40) (.tmp 44) 30 rfl wq.heap.size 65 i0 _ 4 56 Tryz.underlying30 hii hz0 hz1 hz2 rfl (by omega) (.slice A4 (0+1) c4) (0+1) ((L2++[(⟨⟨nm,d,f,ss⟩,A3,c3⟩:RItem)]).flatMap itemCells) rfl ?_ w5.heap.size A5 (0 - 0) c5 (L5.flatMap itemCells) rfl ?_ (itemCells_one L5) ?_ ?_ ?_ (0+1) ((L2++[(⟨⟨nm,d,f,ss⟩,A3,c3⟩:RItem)]).flatMap itemCells++L5.flatMap itemCells) ?_ ?_ ?_;(refine OwnItems.row (hi:=w4.heap.size) ?_;(focus ((repeat (first|(with_reducible exact ho45)|(with_reducible refine OwnItems.drew ?_)|(with_reducible refine OwnItems.alloc ?_ _)));(first|done|fail))));(refine Reads.of_own' (c:=c5) (OwnItems.row (c:=c5) (lo:=w3.heap.size) (hi:=w5.heap.size) ?_) ?_;(focus ((repeat (first|(with_reducible exact ho5)|(with_reducible refine OwnItems.drew ?_)|(with_reducible refine OwnItems.alloc ?_ _)));(first|done|fail)));(first|exact Nat.le_refl _|(simp;first|done|fail)|omega|(simp;omega)));(unfold maxLen;omega);omega;(have hq:=(‹_∧_∧Below _ _ _›).2.2;first|exact hq.size|omega|(simp;omega));(first|omega|exact HLN.out);(exact rfl);intro A6 c6 w6 hr6 hg6 hq6;(have ho6:OwnItems w6 wq.heap.size w6.heap.size A6 (0+1) c6 ((L2++[(⟨⟨nm,d,f,ss⟩,A3,c3⟩:RItem)])++L5):=(by refine OwnItems.join2 (A2:=A5) (m:=(0 - 0)) (c2:=c5) (lo2:=w3.heap.size) (hi:=w4.heap.size) (hi2:=w5.heap.size) ?_ ?_ (by omega) (by first|exact Nat.le_refl _|omega|(simp;first|done|omega)) (by first|exact Nat.le_refl _|omega|(simp;first|done|omega)) (fun a ha b hb k hk hk2=>by have h1:=HLT.out a ha k hk;have h2:=HGE.out b hb k hk2;omega) hg6 hr6;(focus ((repeat (first|(with_reducible exact ho45)|(with_reducible refine OwnItems.drew ?_)|(with_reducible refine OwnItems.alloc ?_ _)));(first|done|fail)));(focus ((repeat (first|(with_reducible exact ho5)|(with_reducible refine OwnItems.drew ?_)|(with_reducible refine OwnItems.alloc ?_ _)));(first|done|fail)))));(have hq:=(‹_∧_∧Below _ _ _›).2.2;have hb6:=hq.trans (grown_below (B:=wq.heap.size) hg6 (fun k hk=>(ho45.row.lt k hk).1) hq.size)))|(refine step_append_G _ rfl (.tmp 40) (.tmp 44) 30 rfl wq.heap.size 65 i0 _ 4 56 Tryz.underlying30 hii hz0 hz1 hz2 rfl (by omega) (.slice A4 (0+1) c4) (0+1) ((L2++[(⟨⟨nm,d,f,ss⟩,A3,c3⟩:RItem)]).flatMap itemCells) rfl ?_ w4.heap.size A5 (0 - 0) c5 (L5.flatMap itemCells) rfl ?_ (itemCells_one L5) ?_ ?_ ?_ (0+1) ((L2++[(⟨⟨nm,d,f,ss⟩,A3,c3⟩:RItem)]).flatMap itemCells++L5.flatMap itemCells) ?_ ?_ ?_;(refine OwnItems.row (hi:=w4.heap.size) ?_;(focus ((repeat (first|(with_reducible exact ho4)|(with_reducible refine OwnItems.drew ?_)|(with_reducible refine OwnItems.alloc ?_ _)));(first|done|fail))));(refine Reads.of_own' (c:=c5) (OwnItems.row (c:=c5) (lo:=w3.heap.size) (hi:=w5.heap.size) ?_) ?_;(focus ((repeat (first|(with_reducible exact ho54)|(with_reducible refine OwnItems.drew ?_)|(with_reducible refine OwnItems.alloc ?_ _)));(first|done|fail)));(first|exact Nat.le_refl _|(simp;first|done|fail)|omega|(simp;omega)));(unfold maxLen;omega);omega;(have hq:=(‹_∧_∧Below _ _ _›).2.2;first|exact hq.size|omega|(simp;omega));(first|omega|exact HLN.out);(exact rfl);intro A6 c6 w6 hr6 hg6 hq6;(have ho6:OwnItems w6 wq.heap.size w6.heap.size A6 (0+1) c6 ((L2++[(⟨⟨nm,d,f,ss⟩,A3,c3⟩:RItem)])++L5):=(by refine OwnItems.join2 (A2:=A5) (m:=(0 - 0)) (c2:=c5) (lo2:=w3.heap.size) (hi:=w4.heap.size) (hi2:=w5.heap.size) ?_ ?_ (by omega) (by first|exact Nat.le_refl _|omega|(simp;first|done|omega)) (by first|exact Nat.le_refl _|omega|(simp;first|done|omega)) (fun a ha b hb k hk hk2=>by have h1:=HLT.out a ha k hk;have h2:=HGE.out b hb k hk2;omega) hg6 hr6;(focus ((repeat (first|(with_reducible exact ho4)|(with_reducible refine OwnItems.drew ?_)|(with_reducible refine OwnItems.alloc ?_ _)));(first|done|fail)));(focus ((repeat (first|(with_reducible exact ho54)|(with_reducible refine OwnItems.drew ?_)|(with_reducible refine OwnItems.alloc ?_ _)));(first|done|fail)))));(have hq:=(‹_∧_∧Below _ _ _›).2.2;have hb6:=hq.trans (grown_below (B:=wq.heap.size) hg6 (fun k hk=>(ho4.row.lt k hk).1) hq.size))))
     all_goals (go_wp2_with fail)
     all_goals (go_meet)
     all_goals (
      refine ⟨A6,c6,(L2++[(⟨⟨nm,d,f,ss⟩,A3,c3⟩:RItem)])++L5,rfl,?_,?_,?_⟩
      rotate_left
      ·first|exact ho6|exact ho6.drew
      ·first|exact hb6|exact hb6.drew
      ·rw [plI_append,plI_append,hp2.out,hp5.out,← HP.out];simp [plI,insP,List.map_take,List.map_drop])
    obtain ⟨A7,c7,L7,rfl,hp7,ho7,hb7⟩:=hcut
    obtain ⟨w7,hwc⟩:∃ W,W=wc:=⟨_,rfl⟩
    subst hwc
    have hbw7:Below w.heap.size w w7:=hbq0.trans (hb7.mono hwq1)
    have ho7:=ho7.wide (lo':=wq.heap.size) (Nat.le_refl _) (Nat.le_refl _)
    cases hcq:catOk (insP P (PItem.mk nm d f ss) 0)
    ·have HCQ:=Lib.hid hcq
     have HR:=Lib.hid (added_no2 (x:=(PItem.mk nm d f ss)) HJ.out hcq)
     clear hcq
     go_wp2_with (first|(go_at_call 93;refine (s_CatalogOk (insP P (PItem.mk nm d f ss) 0) w7.heap.size A7 _ c7 L7 _ hp7 (ho7.rdOk (by rw [hp7];exact HQOK.out)) (Nat.le_refl _)).mono ?_;rintro e w8 ⟨rfl,hb8⟩;rw [HCQ.out];(have hbw8:Below w.heap.size w w8:=hbw7.trans (hb8.mono hbw7.size)))|(go_at_call 173;refine (u_l35Copy P B _ 0 0 L _ HP.out (hS.below (hbw8.mono hB)) (Nat.le_trans hB hbw8.size)).mono ?_;rintro e w9 ⟨A9,c9,L9,rfl,hp9,ho9,hb9⟩;(have hbw9:Below w.heap.size w w9:=hbw8.trans (hb9.mono hbw8.size))))
     refine bodyPost_ret (v:=.tuple #[.slice A9 P.length c9,.bool false]) (by simp [results,Tryz.results185,go_sem, *]) rfl ?_
     exact uitemsB_cast HR.out ⟨A9,c9,L9,rfl,hp9,ho9.wide hbw8.size (Nat.le_refl _),hbw9⟩
    ·have HCQ:=Lib.hid hcq
     have HR:=Lib.hid (added_yes (x:=(PItem.mk nm d f ss)) HJ.out HCK.out hcq)
     clear hcq
     go_wp2_with (first|(go_at_call 93;refine (s_CatalogOk (insP P (PItem.mk nm d f ss) 0) w7.heap.size A7 _ c7 L7 _ hp7 (ho7.rdOk (by rw [hp7];exact HQOK.out)) (Nat.le_refl _)).mono ?_;rintro e w8 ⟨rfl,hb8⟩;rw [HCQ.out];(have hbw8:Below w.heap.size w w8:=hbw7.trans (hb8.mono hbw7.size))))
     refine bodyPost_ret (v:=.tuple #[.slice A7 (0+1) c7,.bool true]) (by simp [results,Tryz.results185,go_sem, *]) rfl ?_
     refine uitemsB_cast HR.out ⟨A7,c7,L7,by rw [HQL.out],hp7,?_,hbw8⟩
     rw [HQL.out]
     exact (ho7.below hb8).wide hwq1 (by have:=hb8.size;omega)
  ·clear hA0
   go_enter Tryz.func185,Tryz.ntmps185
   go_wp2_with (go_at_call 93;refine (s_CatalogOk P B _ n c L _ HP.out (hS.alloc hB _) (by simp;omega)).mono ?_;rintro e w1 ⟨rfl,hb1⟩;rw [HCK.out])
   have hk1:=blk_next hk0 hb1
   have hbw1:Below w.heap.size w w1:=((Below.refl _ _).alloc (Nat.le_refl _) _).trans (hb1.mono (by simp))
   go_loopw [6] (fun i wr=>∃ j:Nat,j≤n∧i=.int .i64 j∧Hid (allLt P nm j)∧Below w1.heap.size w1 wr) (fun i _=>n - (intOf i).toNat)
   case atStart=>exact ⟨0,Nat.zero_le _,rfl,allLt_zero _ _,Below.refl _ _⟩
   case round =>
    obtain ⟨j,hj,rfl,HN,hb⟩:=hrel
    have hkr:=blk_next hk1 hb
    have hzr:w.heap.size<wr.heap.size:=blk_lt hkr
    have hbw:Below w.heap.size w wr:=hbw1.trans (hb.mono hbw1.size)
    obtain ⟨hx0,hx1,hx2,hx3,hxl⟩:=blk4 hkr
    by_cases hlt:j<n
    focus
     obtain ⟨hk9,ad',hade,hab,hc0,hc1,hc2,hc3,hss,hnm⟩:=(hS.below (hbw.mono hB)).at_ hlt
     injection hade with hade
     subst hade
     have HX:=Lib.hid (show P[j]?=some L[j].x by rw [← HP.out];exact plI_at hk9)
     have hq1:(ad.add (j * 4)).block<wr.heap.size:=by rw [block_of_add];omega
     cases hq:Op.bytesLess L[j].x.nm.toList nm.toList
     rotate_left
     ·have HS:=Lib.hid (allLt_succ HN.out HX.out hq)
      go_wp2_with fail
      go_quiet (fail)
      go_wp2
      go_roundw
      case rel=>exact ⟨j+1,by omega,by go_num,HS.out,by first|exact below_drewN hb _|exact hb|exact bel⟩
      case measure=>simp [intOf];omega
     have HJ:Hid (posOf P (PItem.mk nm d f ss).nm=j):=posOf_at P nm j HN.out (by have:=HL.out;omega) (fun x hx=>by have h:=HX.out;rw [hx] at h;injection h with h;rw [h];exact hq)
     go_wp2_with fail
     go_quiet (fail)
    rotate_left
    focus
     have HJ:Hid (posOf P (PItem.mk nm d f ss).nm=j):=posOf_at P nm j HN.out (by have:=HL.out;omega) (fun x hx=>by obtain ⟨h,_⟩:=List.getElem?_eq_some_iff.1 hx;have:=HL.out;omega)
     have hd:decide ((j:Int)<(n:Int))=false:=decide_eq_false (by omega)
     go_wp2_with fail
     go_quiet (fail)
    all_goals (
     obtain ⟨wq,hwq⟩:∃ W,W=wr.drewN nq:=⟨_,rfl⟩
     have hbq0:Below w.heap.size w wq:=by rw [hwq];exact below_drewN hbw nq
     have hkq:wq.heap[w.heap.size]?=some (.cells #[.string nm,.int .i64 d,.int .i64 f,.slice Ax ss.length cx] 65 (0,0)):=by rw [hwq];exact hkr
     rw [← hwq]
     clear hx0 hx1 hx2 hx3 hxl hkr hb hzr hbw hwq
     obtain ⟨hx0,hx1,hx2,hx3,hxl⟩:=blk4 hkq
     go_wp2_with fail
     by_cases hcJ:c=j
     focus
      have hcut0:∀ W:World,Items W B (some ad) n L→Items W B (some ad) (n - j) (L.drop j):=by
       intro W h
       have:=h.drop (k:=j) (cap:=c) hj hnc
       rwa [if_pos hcJ] at this
      have hcT:(c=j)=True:=eq_true hcJ
      clear hcJ
     rotate_left
     focus
      have hcut0:∀ W:World,Items W B (some ad) n L→Items W B (some (ad.add (j * 4))) (n - j) (L.drop j):=by
       intro W h
       have:=h.drop (k:=j) (cap:=c) hj hnc
       rwa [if_neg hcJ] at this
      have hcT:(c=j)=False:=eq_false hcJ
      clear hcJ
     all_goals (
      have hSr:=hS.below (hbq0.mono hB)
      have hXr:=hX.below (hbq0.mono hB)
      have hwq1:=hbq0.size
      have HQL:Hid ((insP P (PItem.mk nm d f ss) j).length=n+1):=by unfold Hid;have h1:=insP_len P (PItem.mk nm d f ss) j (by have:=HL.out;omega);have:=HL.out;omega
      have HQOK:Hid (OkItems (insP P (PItem.mk nm d f ss) j) 16777216):=insP_ok HPO.out (by have:=HL.out;omega) ⟨hX.nb,hX.sb,hnms⟩ (by have:=HL.out;omega)
      have HLN:Hid (j+1+(n - j)=n+1):=by unfold Hid;omega
      have tok1:True:=trivial
      have hi0:(0:Int)≤(j:Int):=Int.natCast_nonneg _
      have hi1:(j:Int)≤(c:Int):=by omega
      have hi4:(n:Int)≤(c:Int):=by omega
      have hi5:(j:Int)≤(n:Int):=by omega
      go_cut [7] (fun s7 wx=>∃ (A7:Option Addr) (c7:Nat) (L7:List RItem),s7=.slice A7 (n+1) c7∧plI L7=insP P (PItem.mk nm d f ss) j∧OwnItems wx wq.heap.size wx.heap.size A7 (n+1) c7 L7∧Below wq.heap.size wq wx)
      case first =>
       go_region_held3 (fun W=>(∀ b o,b<wq.heap.size→W.cell? ⟨b,o,none⟩=(wq).cell? ⟨b,o,none⟩)∧(∀ b o,b<wq.heap.size→W.frozen? ⟨b,o,none⟩=(wq).frozen? ⟨b,o,none⟩)∧Below (wq.heap.size) (wq) W) (exact keep_of bel) (first|(go_at_call 173;have _t:=tok1;have hq:=(‹_∧_∧Below _ _ _›).2.2;refine (s_l35CopyN B _ j c (L.take j) _ ?_ ?_).mono ?_;exact (hSr.below (hq.mono (by omega))).take hj;(first|exact Nat.le_trans (by omega) hq.size|omega);rintro e w2 ⟨A2,c2,L2,rfl,hp2,ho2,hb2⟩;clear _t tok1;have hqs2:=hq.size;have hbs2:=hb2.size;(try simp at hqs2);(try simp at hbs2);(have ho2:=ho2.wide (lo':=wq.heap.size) (hi':=w2.heap.size) (by first|exact hq.size|exact Nat.le_refl _) (Nat.le_refl _));replace hp2:=Lib.hid hp2)|(go_at_call 181;have hq:=(‹_∧_∧Below _ _ _›).2.2;refine (s_l05Copy d f B Ax ss.length cx ss _ ?_ ?_).mono ?_;exact hXr.below (hq.mono (by omega));(first|exact Nat.le_trans (by omega) hq.size|omega);rintro e w3 ⟨A3,c3,rfl,ho3,hb3⟩;have hqs3:=hq.size;have hbs3:=hb3.size;(try simp at hqs3);(try simp at hbs3);(have hos3:OwnS w3 w2.heap.size w3.heap.size A3 c3 ss:=(OwnS.of ho3 (Nat.le_refl _)).wide (by first|exact Nat.le_refl _|(simp;first|done|fail)) (Nat.le_refl _));(have ho23:OwnItems w3 wq.heap.size w2.heap.size A2 j c2 L2:=(by refine OwnItems.below ?_ hb3;(focus ((repeat (first|(with_reducible exact ho2)|(with_reducible refine OwnItems.drew ?_)|(with_reducible refine OwnItems.alloc ?_ _)));(first|done|fail)))));(have HLT:Hid (∀ s∈L2++[(⟨⟨nm,d,f,ss⟩,A3,c3⟩:RItem)],∀ k,s.v.ownBlock=some k→k<w3.heap.size):=(by intro s hs k hk;rcases List.mem_append.1 hs with h|h;(exact Nat.lt_of_lt_of_le ((ho23.in_ s h).top k hk) (by omega));(have h9:=List.mem_singleton.1 h;subst h9;exact hos3.top k hk)));(have HNE:Hid (∀ s∈L2,∀ k,s.v.ownBlock=some k→(Value.slice A3 ss.length c3).ownBlock≠some k):=(by intro s hs k hk hk2;have h1:=(ho23.in_ s hs).top k hk;have h2:=(hos3.row.lt k hk2).1;omega));clear ho3)|(go_at_call 173;have hq:=(‹_∧_∧Below _ _ _›).2.2;refine (s_l35CopyN B _ (n - j) (c - j) (L.drop j) _ ?_ ?_).mono ?_;exact hcut0 _ (hSr.below (hq.mono (by omega)));(first|exact Nat.le_trans (by omega) hq.size|omega);rintro e w5 ⟨A5,c5,L5,rfl,hp5,ho5,hb5⟩;have hqs5:=hq.size;have hbs5:=hb5.size;(try simp at hqs5);(try simp at hbs5);(have HGE:Hid (∀ s∈L5,∀ k,s.v.ownBlock=some k→w3.heap.size≤k):=(by intro s hs k hk;have h1:=((ho5.in_ s hs).row.lt k hk).1;(try simp at h1);omega));(have ho5:=ho5.wide (lo':=w3.heap.size) (hi':=w5.heap.size) (by first|exact Nat.le_refl _|(simp;first|done|fail)|(simp;omega)|omega) (Nat.le_refl _));replace hp5:=Lib.hid hp5;(have ho45:OwnItems w5 wq.heap.size w4.heap.size A4 (j+1) c4 (L2++[(⟨⟨nm,d,f,ss⟩,A3,c3⟩:RItem)]):=(by refine OwnItems.below ?_ hb5;(focus ((repeat (first|(with_reducible exact ho4)|(with_reducible refine OwnItems.drew ?_)|(with_reducible refine OwnItems.alloc ?_ _)));(first|done|fail))))))|(go_at_call 173;have hq:=(‹_∧_∧Below _ _ _›).2.2;refine (s_l35CopyN B _ (n - j) (c - j) (L.drop j) _ ?_ ?_).mono ?_;exact hcut0 _ (hSr.below (hq.mono (by omega)));(first|exact Nat.le_trans (by omega) hq.size|omega);rintro e w5 ⟨A5,c5,L5,rfl,hp5,ho5,hb5⟩;have hqs5:=hq.size;have hbs5:=hb5.size;(try simp at hqs5);(try simp at hbs5);(have HGE:Hid (∀ s∈L5,∀ k,s.v.ownBlock=some k→w3.heap.size≤k):=(by intro s hs k hk;have h1:=((ho5.in_ s hs).row.lt k hk).1;(try simp at h1);omega));(have ho5:=ho5.wide (lo':=w3.heap.size) (hi':=w5.heap.size) (by first|exact Nat.le_refl _|(simp;first|done|fail)|(simp;omega)|omega) (Nat.le_refl _));replace hp5:=Lib.hid hp5;(have ho25:OwnItems w5 wq.heap.size w2.heap.size A2 j c2 L2:=(by refine OwnItems.below ?_ hb5;(focus ((repeat (first|(with_reducible exact ho23)|(with_reducible refine OwnItems.drew ?_)|(with_reducible refine OwnItems.alloc ?_ _)));(first|done|fail)))));(have hos5:OwnS w5 w2.heap.size w3.heap.size A3 c3 ss:=(by refine OwnS.below ?_ hb5;(focus ((repeat (first|(with_reducible exact hos3)|(with_reducible refine OwnS.drew ?_)|(with_reducible refine OwnS.alloc ?_ _)));(first|done|fail))))))|(refine step_append_G _ rfl (.tmp 32) (.tmp 39) 30 rfl wq.heap.size 65 i0 _ 4 56 Tryz.underlying30 hii hz0 hz1 hz2 rfl (by omega) (.slice A2 j c2) j (L2.flatMap itemCells) rfl ?_ (w3.heap.size+1) (some ⟨w3.heap.size,0,none⟩) 1 1 (itemCells (⟨⟨nm,d,f,ss⟩,A3,c3⟩:RItem)) rfl ?_ (itemCells_one1 _) ?_ ?_ ?_ (j+1) (L2.flatMap itemCells++itemCells (⟨⟨nm,d,f,ss⟩,A3,c3⟩:RItem)) rfl rfl ?_;(refine OwnItems.row (hi:=w2.heap.size) ?_;(focus ((repeat (first|(with_reducible exact ho23)|(with_reducible refine OwnItems.drew ?_)|(with_reducible refine OwnItems.alloc ?_ _)));(first|done|fail))));(refine reads_blk4 (t:=65) ?_;(focus ((repeat (first|(with_reducible exact blk_new_at _ _ (by first|rfl|(simp;first|done|fail)))|(with_reducible refine blk_drew ?_)|(with_reducible refine blk_alloc ?_ _)));(first|done|fail))));(unfold maxLen;omega);omega;(have hq:=(‹_∧_∧Below _ _ _›).2.2;first|exact hq.size|omega|(simp;omega));intro A4 c4 w4 hr4 hg4 hq4;(have ho4:OwnItems w4 wq.heap.size w4.heap.size A4 (j+1) c4 (L2++[(⟨⟨nm,d,f,ss⟩,A3,c3⟩:RItem)]):=(by refine OwnItems.append_in (r:=(⟨⟨nm,d,f,ss⟩,A3,c3⟩:RItem)) (mid:=w2.heap.size) (hi:=w3.heap.size) ?_ ?_ (by omega) (by first|omega|(simp;first|done|omega)) (by first|omega|(simp;first|done|omega)) hg4 hr4;(focus ((repeat (first|(with_reducible exact ho23)|(with_reducible refine OwnItems.drew ?_)|(with_reducible refine OwnItems.alloc ?_ _)));(first|done|fail)));(focus ((repeat (first|(with_reducible exact hos3)|(with_reducible refine OwnS.drew ?_)|(with_reducible refine OwnS.alloc ?_ _)));(first|done|fail)))));(have hq:=(‹_∧_∧Below _ _ _›).2.2;have hb4:=hq.trans (grown_below (B:=wq.heap.size) hg4 (fun k hk=>(ho23.row.lt k hk).1) hq.size));have hsz4:=hg4.size;(try simp at hsz4))|(refine step_append_G _ rfl (.tmp 32) (.tmp 39) 30 rfl wq.heap.size 65 i0 _ 4 56 Tryz.underlying30 hii hz0 hz1 hz2 rfl (by omega) (.slice A2 j c2) j (L2.flatMap itemCells) rfl ?_ (w5.heap.size+1) (some ⟨w5.heap.size,0,none⟩) 1 1 (itemCells (⟨⟨nm,d,f,ss⟩,A3,c3⟩:RItem)) rfl ?_ (itemCells_one1 _) ?_ ?_ ?_ (j+1) (L2.flatMap itemCells++itemCells (⟨⟨nm,d,f,ss⟩,A3,c3⟩:RItem)) rfl rfl ?_;(refine OwnItems.row (hi:=w2.heap.size) ?_;(focus ((repeat (first|(with_reducible exact ho25)|(with_reducible refine OwnItems.drew ?_)|(with_reducible refine OwnItems.alloc ?_ _)));(first|done|fail))));(refine reads_blk4 (t:=65) ?_;(focus ((repeat (first|(with_reducible exact blk_new_at _ _ (by first|rfl|(simp;first|done|fail)))|(with_reducible refine blk_drew ?_)|(with_reducible refine blk_alloc ?_ _)));(first|done|fail))));(unfold maxLen;omega);omega;(have hq:=(‹_∧_∧Below _ _ _›).2.2;first|exact hq.size|omega|(simp;omega));intro A4 c4 w4 hr4 hg4 hq4;(have ho4:OwnItems w4 wq.heap.size w4.heap.size A4 (j+1) c4 (L2++[(⟨⟨nm,d,f,ss⟩,A3,c3⟩:RItem)]):=(by refine OwnItems.append_in (r:=(⟨⟨nm,d,f,ss⟩,A3,c3⟩:RItem)) (mid:=w2.heap.size) (hi:=w3.heap.size) ?_ ?_ (by omega) (by first|omega|(simp;first|done|omega)) (by first|omega|(simp;first|done|omega)) hg4 hr4;(focus ((repeat (first|(with_reducible exact ho25)|(with_reducible refine OwnItems.drew ?_)|(with_reducible refine OwnItems.alloc ?_ _)));(first|done|fail)));(focus ((repeat (first|(with_reducible exact hos5)|(with_reducible refine OwnS.drew ?_)|(with_reducible refine OwnS.alloc ?_ _)));(first|done|fail)))));(have hq:=(‹_∧_∧Below _ _ _›).2.2;have hb4:=hq.trans (grown_below (B:=wq.heap.size) hg4 (fun k hk=>(ho23.row.lt k hk).1) hq.size));have hsz4:=hg4.size;(try simp at hsz4);(have ho54:OwnItems w4 w3.heap.size w5.heap.size A5 (n - j) c5 L5:=(by refine OwnItems.grown ?_ hg4 (fun k hk=>.inl (by have h1:=ho23.top k hk;omega));(focus ((repeat (first|(with_reducible exact ho5)|(with_reducible refine OwnItems.drew ?_)|(with_reducible refine OwnItems.alloc ?_ _)));(first|done|fail))))))|(refine step_append_G _ rfl (.tmp 32) (.tmp 39) 30 rfl wq.heap.size 65 i0 _ 4 56 Tryz.underlying30 hii hz0 hz1 hz2 rfl (by omega) (.slice A2 j c2) j (L2.flatMap itemCells) rfl ?_ (w3.heap.size+1) (some ⟨w3.heap.size,0,none⟩) 1 1 (itemCells (⟨⟨nm,d,f,ss⟩,A3,c3⟩:RItem)) rfl ?_ (itemCells_one1 _) ?_ ?_ ?_ (j+1) (L2.flatMap itemCells++itemCells (⟨⟨nm,d,f,ss⟩,A3,c3⟩:RItem)) rfl rfl ?_;(refine OwnItems.row (hi:=w2.heap.size) ?_;(focus ((repeat (first|(with_reducible exact ho25)|(with_reducible refine OwnItems.drew ?_)|(with_reducible refine OwnItems.alloc ?_ _)));(first|done|fail))));(refine reads_blk4 (t:=65) ?_;(focus ((repeat (first|(with_reducible exact blk_new_at _ _ (by first|rfl|(simp;first|done|fail)))|(with_reducible refine blk_drew ?_)|(with_reducible refine blk_alloc ?_ _)));(first|done|fail))));(unfold maxLen;omega);omega;(have hq:=(‹_∧_∧Below _ _ _›).2.2;first|exact hq.size|omega|(simp;omega));intro A4 c4 w4 hr4 hg4 hq4;(have ho4:OwnItems w4 wq.heap.size w4.heap.size A4 (j+1) c4 (L2++[(⟨⟨nm,d,f,ss⟩,A3,c3⟩:RItem)]):=(by refine OwnItems.append_in (r:=(⟨⟨nm,d,f,ss⟩,A3,c3⟩:RItem)) (mid:=w2.heap.size) (hi:=w3.heap.size) ?_ ?_ (by omega) (by first|omega|(simp;first|done|omega)) (by first|omega|(simp;first|done|omega)) hg4 hr4;(focus ((repeat (first|(with_reducible exact ho25)|(with_reducible refine OwnItems.drew ?_)|(with_reducible refine OwnItems.alloc ?_ _)));(first|done|fail)));(focus ((repeat (first|(with_reducible exact hos5)|(with_reducible refine OwnS.drew ?_)|(with_reducible refine OwnS.alloc ?_ _)));(first|done|fail)))));(have hq:=(‹_∧_∧Below _ _ _›).2.2;have hb4:=hq.trans (grown_below (B:=wq.heap.size) hg4 (fun k hk=>(ho23.row.lt k hk).1) hq.size));have hsz4:=hg4.size;(try simp at hsz4);(have ho54:OwnItems w4 w3.heap.size w5.heap.size A5 (n - j) c5 L5:=(by refine OwnItems.grown ?_ hg4 (fun k hk=>.inl (by have h1:=ho23.top k hk;omega));(focus ((repeat (first|(with_reducible exact ho5)|(with_reducible refine OwnItems.drew ?_)|(with_reducible refine OwnItems.alloc ?_ _)));(first|done|fail))))))|(refine step_append_G _ rfl (.tmp 40) (.tmp 44) 30 rfl wq.heap.size 65 i0 _ 4 56 Tryz.underlying30 hii hz0 hz1 hz2 rfl (by omega) (.slice A4 (j+1) c4) (j+1) ((L2++[(⟨⟨nm,d,f,ss⟩,A3,c3⟩:RItem)]).flatMap itemCells) rfl ?_ w5.heap.size A5 (n - j) c5 (L5.flatMap itemCells) rfl ?_ (itemCells_one L5) ?_ ?_ ?_ (n+1) ((L2++[(⟨⟨nm,d,f,ss⟩,A3,c3⟩:RItem)]).flatMap itemCells++L5.flatMap itemCells) ?_ ?_ ?_;(refine OwnItems.row (hi:=w4.heap.size) ?_;(focus ((repeat (first|(with_reducible exact ho45)|(with_reducible refine OwnItems.drew ?_)|(with_reducible refine OwnItems.alloc ?_ _)));(first|done|fail))));(refine Reads.of_own' (c:=c5) (OwnItems.row (c:=c5) (lo:=w3.heap.size) (hi:=w5.heap.size) ?_) ?_;(focus ((repeat (first|(with_reducible exact ho5)|(with_reducible refine OwnItems.drew ?_)|(with_reducible refine OwnItems.alloc ?_ _)));(first|done|fail)));(first|exact Nat.le_refl _|(simp;first|done|fail)|omega|(simp;omega)));(unfold maxLen;omega);omega;(have hq:=(‹_∧_∧Below _ _ _›).2.2;first|exact hq.size|omega|(simp;omega));(first|omega|exact HLN.out);(exact rfl);intro A6 c6 w6 hr6 hg6 hq6;(have ho6:OwnItems w6 wq.heap.size w6.heap.size A6 (n+1) c6 ((L2++[(⟨⟨nm,d,f,ss⟩,A3,c3⟩:RItem)])++L5):=(by refine OwnItems.join2 (A2:=A5) (m:=(n - j)) (c2:=c5) (lo2:=w3.heap.size) (hi:=w4.heap.size) (hi2:=w5.heap.size) ?_ ?_ (by omega) (by first|exact Nat.le_refl _|omega|(simp;first|done|omega)) (by first|exact Nat.le_refl _|omega|(simp;first|done|omega)) (fun a ha b hb k hk hk2=>by have h1:=HLT.out a ha k hk;have h2:=HGE.out b hb k hk2;omega) hg6 hr6;(focus ((repeat (first|(with_reducible exact ho45)|(with_reducible refine OwnItems.drew ?_)|(with_reducible refine OwnItems.alloc ?_ _)));(first|done|fail)));(focus ((repeat (first|(with_reducible exact ho5)|(with_reducible refine OwnItems.drew ?_)|(with_reducible refine OwnItems.alloc ?_ _)));(first|done|fail)))));(have hq:=(‹_∧_∧Below _ _ _›).2.2;have hb6:=hq.trans (grown_below (B:=wq.heap.size) hg6 (fun k hk=>(ho45.row.lt k hk).1) hq.size)))|(refine step_append_G _ rfl (.tmp 40) (.tmp 44) 30 rfl wq.heap.size 65 i0 _ 4 56 Tryz.underlying30 hii hz0 hz1 hz2 rfl (by omega) (.slice A4 (j+1) c4) (j+1) ((L2++[(⟨⟨nm,d,f,ss⟩,A3,c3⟩:RItem)]).flatMap itemCells) rfl ?_ w4.heap.size A5 (n - j) c5 (L5.flatMap itemCells) rfl ?_ (itemCells_one L5) ?_ ?_ ?_ (n+1) ((L2++[(⟨⟨nm,d,f,ss⟩,A3,c3⟩:RItem)]).flatMap itemCells++L5.flatMap itemCells) ?_ ?_ ?_;(refine OwnItems.row (hi:=w4.heap.size) ?_;(focus ((repeat (first|(with_reducible exact ho4)|(with_reducible refine OwnItems.drew ?_)|(with_reducible refine OwnItems.alloc ?_ _)));(first|done|fail))));(refine Reads.of_own' (c:=c5) (OwnItems.row (c:=c5) (lo:=w3.heap.size) (hi:=w5.heap.size) ?_) ?_;(focus ((repeat (first|(with_reducible exact ho54)|(with_reducible refine OwnItems.drew ?_)|(with_reducible refine OwnItems.alloc ?_ _)));(first|done|fail)));(first|exact Nat.le_refl _|(simp;first|done|fail)|omega|(simp;omega)));(unfold maxLen;omega);omega;(have hq:=(‹_∧_∧Below _ _ _›).2.2;first|exact hq.size|omega|(simp;omega));(first|omega|exact HLN.out);(exact rfl);intro A6 c6 w6 hr6 hg6 hq6;(have ho6:OwnItems w6 wq.heap.size w6.heap.size A6 (n+1) c6 ((L2++[(⟨⟨nm,d,f,ss⟩,A3,c3⟩:RItem)])++L5):=(by refine OwnItems.join2 (A2:=A5) (m:=(n - j)) (c2:=c5) (lo2:=w3.heap.size) (hi:=w4.heap.size) (hi2:=w5.heap.size) ?_ ?_ (by omega) (by first|exact Nat.le_refl _|omega|(simp;first|done|omega)) (by first|exact Nat.le_refl _|omega|(simp;first|done|omega)) (fun a ha b hb k hk hk2=>by have h1:=HLT.out a ha k hk;have h2:=HGE.out b hb k hk2;omega) hg6 hr6;(focus ((repeat (first|(with_reducible exact ho4)|(with_reducible refine OwnItems.drew ?_)|(with_reducible refine OwnItems.alloc ?_ _)));(first|done|fail)));(focus ((repeat (first|(with_reducible exact ho54)|(with_reducible refine OwnItems.drew ?_)|(with_reducible refine OwnItems.alloc ?_ _)));(first|done|fail)))));(have hq:=(‹_∧_∧Below _ _ _›).2.2;have hb6:=hq.trans (grown_below (B:=wq.heap.size) hg6 (fun k hk=>(ho4.row.lt k hk).1) hq.size))))
       all_goals (go_wp2_with fail)
       all_goals (go_meet)
       all_goals (
        refine ⟨A6,c6,(L2++[(⟨⟨nm,d,f,ss⟩,A3,c3⟩:RItem)])++L5,rfl,?_,?_,?_⟩
        rotate_left
        ·first|exact ho6|exact ho6.drew
        ·first|exact hb6|exact hb6.drew
        ·rw [plI_append,plI_append,hp2.out,hp5.out,← HP.out];simp [plI,insP,List.map_take,List.map_drop])
      obtain ⟨A7,c7,L7,rfl,hp7,ho7,hb7⟩:=hcut
      obtain ⟨w7,hwc⟩:∃ W,W=wc:=⟨_,rfl⟩
      subst hwc
      have hbw7:Below w.heap.size w w7:=hbq0.trans (hb7.mono hwq1)
      have ho7:=ho7.wide (lo':=wq.heap.size) (Nat.le_refl _) (Nat.le_refl _)
      cases hcq:catOk (insP P (PItem.mk nm d f ss) j)
      ·have HCQ:=Lib.hid hcq
       have HR:=Lib.hid (added_no2 (x:=(PItem.mk nm d f ss)) HJ.out hcq)
       clear hcq
       go_wp2_with (first|(go_at_call 93;refine (s_CatalogOk (insP P (PItem.mk nm d f ss) j) w7.heap.size A7 _ c7 L7 _ hp7 (ho7.rdOk (by rw [hp7];exact HQOK.out)) (Nat.le_refl _)).mono ?_;rintro e w8 ⟨rfl,hb8⟩;rw [HCQ.out];(have hbw8:Below w.heap.size w w8:=hbw7.trans (hb8.mono hbw7.size)))|(go_at_call 173;refine (u_l35Copy P B _ n c L _ HP.out (hS.below (hbw8.mono hB)) (Nat.le_trans hB hbw8.size)).mono ?_;rintro e w9 ⟨A9,c9,L9,rfl,hp9,ho9,hb9⟩;(have hbw9:Below w.heap.size w w9:=hbw8.trans (hb9.mono hbw8.size))))
       refine bodyPost_ret (v:=.tuple #[.slice A9 P.length c9,.bool false]) (by simp [results,Tryz.results185,go_sem, *]) rfl ?_
       exact uitemsB_cast HR.out ⟨A9,c9,L9,rfl,hp9,ho9.wide hbw8.size (Nat.le_refl _),hbw9⟩
      ·have HCQ:=Lib.hid hcq
       have HR:=Lib.hid (added_yes (x:=(PItem.mk nm d f ss)) HJ.out HCK.out hcq)
       clear hcq
       go_wp2_with (first|(go_at_call 93;refine (s_CatalogOk (insP P (PItem.mk nm d f ss) j) w7.heap.size A7 _ c7 L7 _ hp7 (ho7.rdOk (by rw [hp7];exact HQOK.out)) (Nat.le_refl _)).mono ?_;rintro e w8 ⟨rfl,hb8⟩;rw [HCQ.out];(have hbw8:Below w.heap.size w w8:=hbw7.trans (hb8.mono hbw7.size))))
       refine bodyPost_ret (v:=.tuple #[.slice A7 (n+1) c7,.bool true]) (by simp [results,Tryz.results185,go_sem, *]) rfl ?_
       refine uitemsB_cast HR.out ⟨A7,c7,L7,by rw [HQL.out],hp7,?_,hbw8⟩
       rw [HQL.out]
       exact (ho7.below hb8).wide hwq1 (by have:=hb8.size;omega)))
theorem i_copyItemsN (B:Nat) (A:Option Addr) (n c:Nat) (L:List RItem) (w:World) (hS:Items w B A n L) (hB:B≤w.heap.size) :
  Calls Tryz.prog 85 #[.slice A n c] w fun e w'=>∃ A' c' L',e=.returned (.slice A' n c')∧plI L'=plI L∧OwnItems w' w.heap.size w'.heap.size A' n c' L'∧Below w.heap.size w w':=by
 have hl:(plI L).length=n:=by rw [plI_len,hS.len]
 refine (u_copyItems (plI L) B A n c L w rfl hS hB).mono ?_
 rintro e w' ⟨A',c',L',h1,h2,h3,h4⟩
 rw [hl] at h1 h3
 exact ⟨A',c',L',h1,h2,h3,h4⟩
set_option maxHeartbeats 6400000 in
theorem i_AddItem (nm:ByteArray) (d f:Int) (Ax:Option Addr) (cx:Nat) (ss:List ByteArray) (P:List PItem) (B:Nat) (A:Option Addr) (n c:Nat) (L:List RItem) (w:World) (hp:plI L=P) (hS:Items w B A n L) (hX:Strs w B Ax ss.length ss) (hnms:nm.size≤16777216) (hB:B≤w.heap.size) (hn2:n≤16777215) :
  Calls Tryz.prog 196 #[.slice A n c,.agg #[.string nm,.int .i64 d,.int .i64 f,.slice Ax ss.length cx]] w (UItemsB (added P (PItem.mk nm d f ss)).1 (added P (PItem.mk nm d f ss)).2 w):=by
 have hn:=hS.nb
 have hl:P.length=n:=by rw [← hp,plI_len,hS.len]
 have hpo:OkItems P 16777216:=by rw [← hp];exact hS.ok
 have HPO:=Lib.hid hpo
 have HL:=Lib.hid hl
 have HP:=Lib.hid hp
 clear hl hp hpo
 have hk0:=blk_new w (.cells #[.string nm,.int .i64 d,.int .i64 f,.slice Ax ss.length cx] 65)
 go_enter Tryz.func196,Tryz.ntmps196
 go_wp2
 go_loopw [6] (fun i wr=>∃ j:Nat,j≤n∧i=.int .i64 j∧Hid (allLt P nm j)∧Below (w.heap.size+1) (w.alloc (.cells #[.string nm,.int .i64 d,.int .i64 f,.slice Ax ss.length cx] 65)) wr) (fun i _=>n - (intOf i).toNat)
 case atStart=>exact ⟨0,Nat.zero_le _,rfl,allLt_zero _ _,Below.refl _ _⟩
 case round =>
  obtain ⟨j,hj,rfl,HN,hb⟩:=hrel
  have hkr:=blk_below hk0 hb (by omega)
  have hzr:w.heap.size<wr.heap.size:=blk_lt hkr
  have hbw:Below w.heap.size w wr:=((Below.refl _ _).alloc (Nat.le_refl _) _).trans (hb.mono (by omega))
  obtain ⟨hx0,hx1,hx2,hx3,hxl⟩:=blk4 hkr
  by_cases hlt:j<n
  ·obtain ⟨hk1,ad,rfl,hab,hc0,hc1,hc2,hc3,hss,hnm⟩:=(hS.below (hbw.mono hB)).at_ hlt
   have HX:=Lib.hid (show P[j]?=some L[j].x by rw [← HP.out];exact plI_at hk1)
   have hq1:(ad.add (j * 4)).block<wr.heap.size:=by rw [block_of_add];omega
   cases hq:Op.bytesLess L[j].x.nm.toList nm.toList
   ·have HJ:Hid (posOf P (PItem.mk nm d f ss).nm=j):=posOf_at P nm j HN.out (by have:=HL.out;omega) (fun x hx=>by have h:=HX.out;rw [hx] at h;injection h with h;rw [h];exact hq)
    have hq9:Op.bytesLess L[j].x.nm.toList nm.toList=false:=hq
    go_wp2_with fail
    go_quiet (fail)
    obtain ⟨wq,hwq⟩:∃ W,W=wr.drewN nq:=⟨_,rfl⟩
    have hbq0:Below w.heap.size w wq:=by rw [hwq];exact below_drewN hbw nq
    have hkq:wq.heap[w.heap.size]?=some (.cells #[.string nm,.int .i64 d,.int .i64 f,.slice Ax ss.length cx] 65 (0,0)):=by rw [hwq];exact hkr
    rw [← hwq]
    clear hx0 hx1 hx2 hx3 hxl hkr hb hzr hbw hwq
    obtain ⟨hx0,hx1,hx2,hx3,hxl⟩:=blk4 hkq
    go_wp2_with fail
    have hSr:=hS.below (hbq0.mono hB)
    have hXr:=hX.below (hbq0.mono hB)
    have hwq1:=hbq0.size
    have hQL:=insP_len P (PItem.mk nm d f ss) j (by have:=HL.out;omega)
    have HQL:Hid ((insP P (PItem.mk nm d f ss) j).length=n+1):=by unfold Hid;have:=HL.out;omega
    have HQOK:Hid (OkItems (insP P (PItem.mk nm d f ss) j) 16777216):=insP_ok HPO.out (by have:=HL.out;omega) ⟨hX.nb,hX.sb,hnms⟩ (by have:=HL.out;omega)
    clear hQL
    go_cut [7] (fun s7 wx=>∃ (A7:Option Addr) (c7:Nat) (L7:List RItem),s7=.slice A7 (n+1) c7∧plI L7=insP P (PItem.mk nm d f ss) j∧OwnItems wx wq.heap.size wx.heap.size A7 (n+1) c7 L7∧Below wq.heap.size wq wx)
    case first =>
     go_region_held3 (fun W=>(∀ b o,b<wq.heap.size→W.cell? ⟨b,o,none⟩=(wq).cell? ⟨b,o,none⟩)∧(∀ b o,b<wq.heap.size→W.frozen? ⟨b,o,none⟩=(wq).frozen? ⟨b,o,none⟩)∧Below (wq.heap.size) (wq) W) (exact keep_of bel) (first|(go_at_call 85;have hq:=(‹_∧_∧Below _ _ _›).2.2;refine (i_copyItemsN B _ n c L _ ?_ ?_).mono ?_;exact hSr.below (hq.mono (by omega));exact Nat.le_trans (by omega) hq.size;rintro e w2 ⟨A2,c2,L2,rfl,hp2,ho2,hb2⟩;have hqs2:=hq.size;have hbs2:=hb2.size;(try simp at hqs2);(try simp at hbs2);(have ho2:=ho2.wide (lo':=wq.heap.size) (hi':=w2.heap.size) (by first|exact hq.size|exact Nat.le_refl _) (Nat.le_refl _));replace hp2:=Lib.hid hp2)|(go_at_call 122;have hq:=(‹_∧_∧Below _ _ _›).2.2;refine (i_copied d f B Ax ss.length cx ss _ ?_ ?_).mono ?_;exact hXr.below (hq.mono (by omega));exact Nat.le_trans (by omega) hq.size;rintro e w3 ⟨A3,c3,rfl,ho3,hb3⟩;have hqs3:=hq.size;have hbs3:=hb3.size;(try simp at hqs3);(try simp at hbs3);(have hos3:OwnS w3 w2.heap.size w3.heap.size A3 c3 ss:=(OwnS.of ho3 (Nat.le_refl _)).wide (by first|exact Nat.le_refl _|(simp;first|done|fail)) (Nat.le_refl _));(have ho23:OwnItems w3 wq.heap.size w2.heap.size A2 n c2 L2:=(by first|exact ho2.below hb3|exact ho2.drew.below hb3));clear ho3)|(go_at_call 241;refine (ins_item wq.heap.size n c2 j _ A2 65 L2 ⟨⟨nm,d,f,ss⟩,A3,c3⟩ _ ?_ hn2 hj ?_ ?_ ?_).mono ?_;(first|exact (ho23.alloc _).row|exact (ho23.drew.alloc _).row|exact ((ho23.alloc _).drew).row);(first|(with_reducible exact blk_new_at _ _ (by first|rfl|(simp;first|done|fail)))|(with_reducible refine blk_drew ?_;with_reducible exact blk_new_at _ _ (by first|rfl|(simp;first|done|fail))));(intro hk;have q:=ho23.top _ hk;(try simp at q);omega);(first|(simp;omega)|(simp;first|done|fail)|omega);rintro e w4 ⟨A4,c4,rfl,ho4,hg4⟩;(have hj4:OwnItems w4 wq.heap.size w4.heap.size A4 (n+1) c4 (L2.take j++⟨⟨nm,d,f,ss⟩,A3,c3⟩ :: L2.drop j):=(by first|exact OwnItems.ins (ho23.alloc _) ((hos3.alloc _).wide (Nat.le_refl _) (by simp)) (by omega) (by simp;omega) hg4 ho4|exact OwnItems.ins (ho23.drew.alloc _) ((hos3.drew.alloc _).wide (Nat.le_refl _) (by simp)) (by omega) (by simp;omega) hg4 ho4));(have hq:=(‹_∧_∧Below _ _ _›).2.2;have hb14:=hq.trans (grown_below (B:=wq.heap.size) hg4 (fun k hk=>(ho23.row.lt k hk).1) hq.size))))
     all_goals (go_wp2_with fail)
     all_goals (go_meet)
     all_goals (
      refine ⟨A4,c4,L2.take j++⟨⟨nm,d,f,ss⟩,A3,c3⟩ :: L2.drop j,rfl,?_,?_,?_⟩
      rotate_left
      ·first|exact hj4|exact hj4.drew
      ·first|exact hb14|exact hb14.drew
      ·rw [plI_ins,hp2.out,HP.out])
    obtain ⟨A7,c7,L7,rfl,hp7,ho7,hb5⟩:=hcut
    obtain ⟨w5,hwc⟩:∃ W,W=wc:=⟨_,rfl⟩
    subst hwc
    have hbw5:Below w.heap.size w w5:=hbq0.trans (hb5.mono hwq1)
    have tok1:True:=trivial
    cases hck:catOk P
    ·have HCK:=Lib.hid hck
     have HR:=Lib.hid (added_no1 (x:=(PItem.mk nm d f ss)) hck)
     clear hck
     go_wp2_with (first|(go_at_call 83;have _t:=tok1;refine (i_CatalogOk P B _ n c L _ HP.out (hS.below (hbw5.mono hB)) (Nat.le_trans hB hbw5.size)).mono ?_;rintro e w6 ⟨rfl,hb6⟩;rw [HCK.out];clear _t tok1;(have hbw6:Below w.heap.size w w6:=hbw5.trans (hb6.mono hbw5.size)))|(go_at_call 85;refine (u_copyItems P B _ n c L _ HP.out (hS.below (hbw6.mono hB)) (Nat.le_trans hB hbw6.size)).mono ?_;rintro e w8 ⟨A8,c8,L8,rfl,hp8,ho8,hb8⟩;(have hbw8:Below w.heap.size w w8:=hbw6.trans (hb8.mono hbw6.size))))
     refine bodyPost_ret (v:=.tuple #[.slice A8 P.length c8,.bool false]) (by simp [results,Tryz.results196,go_sem, *]) rfl ?_
     exact uitemsB_cast HR.out ⟨A8,c8,L8,rfl,hp8,ho8.wide hbw6.size (Nat.le_refl _),hbw8⟩
    ·have HCK:=Lib.hid hck
     cases hcq:catOk (insP P (PItem.mk nm d f ss) j)
     ·have HCQ:=Lib.hid hcq
      have HR:=Lib.hid (added_no2 (x:=(PItem.mk nm d f ss)) HJ.out hcq)
      clear hck hcq
      go_wp2_with (first|(go_at_call 83;have _t:=tok1;refine (i_CatalogOk P B _ n c L _ HP.out (hS.below (hbw5.mono hB)) (Nat.le_trans hB hbw5.size)).mono ?_;rintro e w6 ⟨rfl,hb6⟩;rw [HCK.out];clear _t tok1;(have hbw6:Below w.heap.size w w6:=hbw5.trans (hb6.mono hbw5.size)))|(go_at_call 83;refine (i_CatalogOk (insP P (PItem.mk nm d f ss) j) w6.heap.size A7 (n+1) c7 L7 _ hp7 ((ho7.below hb6).rdOk (by rw [hp7];exact HQOK.out)) (Nat.le_refl _)).mono ?_;rintro e w7 ⟨rfl,hb7⟩;rw [HCQ.out];(have hbw7:Below w.heap.size w w7:=hbw6.trans (hb7.mono hbw6.size)))|(go_at_call 85;refine (u_copyItems P B _ n c L _ HP.out (hS.below (hbw7.mono hB)) (Nat.le_trans hB hbw7.size)).mono ?_;rintro e w8 ⟨A8,c8,L8,rfl,hp8,ho8,hb8⟩;(have hbw8:Below w.heap.size w w8:=hbw7.trans (hb8.mono hbw7.size))))
      refine bodyPost_ret (v:=.tuple #[.slice A8 P.length c8,.bool false]) (by simp [results,Tryz.results196,go_sem, *]) rfl ?_
      exact uitemsB_cast HR.out ⟨A8,c8,L8,rfl,hp8,ho8.wide hbw7.size (Nat.le_refl _),hbw8⟩
     ·have HCQ:=Lib.hid hcq
      have HR:=Lib.hid (added_yes (x:=(PItem.mk nm d f ss)) HJ.out hck hcq)
      clear hck hcq
      go_wp2_with (first|(go_at_call 83;have _t:=tok1;refine (i_CatalogOk P B _ n c L _ HP.out (hS.below (hbw5.mono hB)) (Nat.le_trans hB hbw5.size)).mono ?_;rintro e w6 ⟨rfl,hb6⟩;rw [HCK.out];clear _t tok1;(have hbw6:Below w.heap.size w w6:=hbw5.trans (hb6.mono hbw5.size)))|(go_at_call 83;refine (i_CatalogOk (insP P (PItem.mk nm d f ss) j) w6.heap.size A7 (n+1) c7 L7 _ hp7 ((ho7.below hb6).rdOk (by rw [hp7];exact HQOK.out)) (Nat.le_refl _)).mono ?_;rintro e w7 ⟨rfl,hb7⟩;rw [HCQ.out];(have hbw7:Below w.heap.size w w7:=hbw6.trans (hb7.mono hbw6.size))))
      refine bodyPost_ret (v:=.tuple #[.slice A7 (n+1) c7,.bool true]) (by simp [results,Tryz.results196,go_sem, *]) rfl ?_
      refine uitemsB_cast HR.out ⟨A7,c7,L7,by rw [HQL.out],hp7,?_,hbw7⟩
      rw [HQL.out]
      exact ((ho7.below hb6).below hb7).wide hwq1 (by have:=hb6.size;have:=hb7.size;omega)
   ·have HS:=Lib.hid (allLt_succ HN.out HX.out hq)
    go_wp2_with fail
    go_quiet (fail)
    go_wp2
    go_roundw
    case rel=>exact ⟨j+1,by omega,by go_num,HS.out,by first|exact below_drewN hb _|exact hb|exact bel⟩
    case measure=>simp [intOf];omega
  ·have hjn:j=n:=by omega
   have HJ:Hid (posOf P (PItem.mk nm d f ss).nm=j):=posOf_at P nm j HN.out (by have:=HL.out;omega) (fun x hx=>by obtain ⟨h,_⟩:=List.getElem?_eq_some_iff.1 hx;have:=HL.out;omega)
   have hd:decide ((j:Int)<(n:Int))=false:=decide_eq_false (by omega)
   clear hjn
   go_wp2_with fail
   go_quiet (fail)
   obtain ⟨wq,hwq⟩:∃ W,W=wr.drewN nq:=⟨_,rfl⟩
   have hbq0:Below w.heap.size w wq:=by rw [hwq];exact below_drewN hbw nq
   have hkq:wq.heap[w.heap.size]?=some (.cells #[.string nm,.int .i64 d,.int .i64 f,.slice Ax ss.length cx] 65 (0,0)):=by rw [hwq];exact hkr
   rw [← hwq]
   clear hx0 hx1 hx2 hx3 hxl hkr hb hzr hbw hwq
   obtain ⟨hx0,hx1,hx2,hx3,hxl⟩:=blk4 hkq
   go_wp2_with fail
   have hSr:=hS.below (hbq0.mono hB)
   have hXr:=hX.below (hbq0.mono hB)
   have hwq1:=hbq0.size
   have hQL:=insP_len P (PItem.mk nm d f ss) j (by have:=HL.out;omega)
   have HQL:Hid ((insP P (PItem.mk nm d f ss) j).length=n+1):=by unfold Hid;have:=HL.out;omega
   have HQOK:Hid (OkItems (insP P (PItem.mk nm d f ss) j) 16777216):=insP_ok HPO.out (by have:=HL.out;omega) ⟨hX.nb,hX.sb,hnms⟩ (by have:=HL.out;omega)
   clear hQL
   go_cut [7] (fun s7 wx=>∃ (A7:Option Addr) (c7:Nat) (L7:List RItem),s7=.slice A7 (n+1) c7∧plI L7=insP P (PItem.mk nm d f ss) j∧OwnItems wx wq.heap.size wx.heap.size A7 (n+1) c7 L7∧Below wq.heap.size wq wx)
   case first =>
    go_region_held3 (fun W=>(∀ b o,b<wq.heap.size→W.cell? ⟨b,o,none⟩=(wq).cell? ⟨b,o,none⟩)∧(∀ b o,b<wq.heap.size→W.frozen? ⟨b,o,none⟩=(wq).frozen? ⟨b,o,none⟩)∧Below (wq.heap.size) (wq) W) (exact keep_of bel) (first|(go_at_call 85;have hq:=(‹_∧_∧Below _ _ _›).2.2;refine (i_copyItemsN B _ n c L _ ?_ ?_).mono ?_;exact hSr.below (hq.mono (by omega));exact Nat.le_trans (by omega) hq.size;rintro e w2 ⟨A2,c2,L2,rfl,hp2,ho2,hb2⟩;have hqs2:=hq.size;have hbs2:=hb2.size;(try simp at hqs2);(try simp at hbs2);(have ho2:=ho2.wide (lo':=wq.heap.size) (hi':=w2.heap.size) (by first|exact hq.size|exact Nat.le_refl _) (Nat.le_refl _));replace hp2:=Lib.hid hp2)|(go_at_call 122;have hq:=(‹_∧_∧Below _ _ _›).2.2;refine (i_copied d f B Ax ss.length cx ss _ ?_ ?_).mono ?_;exact hXr.below (hq.mono (by omega));exact Nat.le_trans (by omega) hq.size;rintro e w3 ⟨A3,c3,rfl,ho3,hb3⟩;have hqs3:=hq.size;have hbs3:=hb3.size;(try simp at hqs3);(try simp at hbs3);(have hos3:OwnS w3 w2.heap.size w3.heap.size A3 c3 ss:=(OwnS.of ho3 (Nat.le_refl _)).wide (by first|exact Nat.le_refl _|(simp;first|done|fail)) (Nat.le_refl _));(have ho23:OwnItems w3 wq.heap.size w2.heap.size A2 n c2 L2:=(by first|exact ho2.below hb3|exact ho2.drew.below hb3));clear ho3)|(go_at_call 241;refine (ins_item wq.heap.size n c2 j _ A2 65 L2 ⟨⟨nm,d,f,ss⟩,A3,c3⟩ _ ?_ hn2 hj ?_ ?_ ?_).mono ?_;(first|exact (ho23.alloc _).row|exact (ho23.drew.alloc _).row|exact ((ho23.alloc _).drew).row);(first|(with_reducible exact blk_new_at _ _ (by first|rfl|(simp;first|done|fail)))|(with_reducible refine blk_drew ?_;with_reducible exact blk_new_at _ _ (by first|rfl|(simp;first|done|fail))));(intro hk;have q:=ho23.top _ hk;(try simp at q);omega);(first|(simp;omega)|(simp;first|done|fail)|omega);rintro e w4 ⟨A4,c4,rfl,ho4,hg4⟩;(have hj4:OwnItems w4 wq.heap.size w4.heap.size A4 (n+1) c4 (L2.take j++⟨⟨nm,d,f,ss⟩,A3,c3⟩ :: L2.drop j):=(by first|exact OwnItems.ins (ho23.alloc _) ((hos3.alloc _).wide (Nat.le_refl _) (by simp)) (by omega) (by simp;omega) hg4 ho4|exact OwnItems.ins (ho23.drew.alloc _) ((hos3.drew.alloc _).wide (Nat.le_refl _) (by simp)) (by omega) (by simp;omega) hg4 ho4));(have hq:=(‹_∧_∧Below _ _ _›).2.2;have hb14:=hq.trans (grown_below (B:=wq.heap.size) hg4 (fun k hk=>(ho23.row.lt k hk).1) hq.size))))
    all_goals (go_wp2_with fail)
    all_goals (go_meet)
    all_goals (
     refine ⟨A4,c4,L2.take j++⟨⟨nm,d,f,ss⟩,A3,c3⟩ :: L2.drop j,rfl,?_,?_,?_⟩
     rotate_left
     ·first|exact hj4|exact hj4.drew
     ·first|exact hb14|exact hb14.drew
     ·rw [plI_ins,hp2.out,HP.out])
   obtain ⟨A7,c7,L7,rfl,hp7,ho7,hb5⟩:=hcut
   obtain ⟨w5,hwc⟩:∃ W,W=wc:=⟨_,rfl⟩
   subst hwc
   have hbw5:Below w.heap.size w w5:=hbq0.trans (hb5.mono hwq1)
   have tok1:True:=trivial
   cases hck:catOk P
   ·have HCK:=Lib.hid hck
    have HR:=Lib.hid (added_no1 (x:=(PItem.mk nm d f ss)) hck)
    clear hck
    go_wp2_with (first|(go_at_call 83;have _t:=tok1;refine (i_CatalogOk P B _ n c L _ HP.out (hS.below (hbw5.mono hB)) (Nat.le_trans hB hbw5.size)).mono ?_;rintro e w6 ⟨rfl,hb6⟩;rw [HCK.out];clear _t tok1;(have hbw6:Below w.heap.size w w6:=hbw5.trans (hb6.mono hbw5.size)))|(go_at_call 85;refine (u_copyItems P B _ n c L _ HP.out (hS.below (hbw6.mono hB)) (Nat.le_trans hB hbw6.size)).mono ?_;rintro e w8 ⟨A8,c8,L8,rfl,hp8,ho8,hb8⟩;(have hbw8:Below w.heap.size w w8:=hbw6.trans (hb8.mono hbw6.size))))
    refine bodyPost_ret (v:=.tuple #[.slice A8 P.length c8,.bool false]) (by simp [results,Tryz.results196,go_sem, *]) rfl ?_
    exact uitemsB_cast HR.out ⟨A8,c8,L8,rfl,hp8,ho8.wide hbw6.size (Nat.le_refl _),hbw8⟩
   ·have HCK:=Lib.hid hck
    cases hcq:catOk (insP P (PItem.mk nm d f ss) j)
    ·have HCQ:=Lib.hid hcq
     have HR:=Lib.hid (added_no2 (x:=(PItem.mk nm d f ss)) HJ.out hcq)
     clear hck hcq
     go_wp2_with (first|(go_at_call 83;have _t:=tok1;refine (i_CatalogOk P B _ n c L _ HP.out (hS.below (hbw5.mono hB)) (Nat.le_trans hB hbw5.size)).mono ?_;rintro e w6 ⟨rfl,hb6⟩;rw [HCK.out];clear _t tok1;(have hbw6:Below w.heap.size w w6:=hbw5.trans (hb6.mono hbw5.size)))|(go_at_call 83;refine (i_CatalogOk (insP P (PItem.mk nm d f ss) j) w6.heap.size A7 (n+1) c7 L7 _ hp7 ((ho7.below hb6).rdOk (by rw [hp7];exact HQOK.out)) (Nat.le_refl _)).mono ?_;rintro e w7 ⟨rfl,hb7⟩;rw [HCQ.out];(have hbw7:Below w.heap.size w w7:=hbw6.trans (hb7.mono hbw6.size)))|(go_at_call 85;refine (u_copyItems P B _ n c L _ HP.out (hS.below (hbw7.mono hB)) (Nat.le_trans hB hbw7.size)).mono ?_;rintro e w8 ⟨A8,c8,L8,rfl,hp8,ho8,hb8⟩;(have hbw8:Below w.heap.size w w8:=hbw7.trans (hb8.mono hbw7.size))))
     refine bodyPost_ret (v:=.tuple #[.slice A8 P.length c8,.bool false]) (by simp [results,Tryz.results196,go_sem, *]) rfl ?_
     exact uitemsB_cast HR.out ⟨A8,c8,L8,rfl,hp8,ho8.wide hbw7.size (Nat.le_refl _),hbw8⟩
    ·have HCQ:=Lib.hid hcq
     have HR:=Lib.hid (added_yes (x:=(PItem.mk nm d f ss)) HJ.out hck hcq)
     clear hck hcq
     go_wp2_with (first|(go_at_call 83;have _t:=tok1;refine (i_CatalogOk P B _ n c L _ HP.out (hS.below (hbw5.mono hB)) (Nat.le_trans hB hbw5.size)).mono ?_;rintro e w6 ⟨rfl,hb6⟩;rw [HCK.out];clear _t tok1;(have hbw6:Below w.heap.size w w6:=hbw5.trans (hb6.mono hbw5.size)))|(go_at_call 83;refine (i_CatalogOk (insP P (PItem.mk nm d f ss) j) w6.heap.size A7 (n+1) c7 L7 _ hp7 ((ho7.below hb6).rdOk (by rw [hp7];exact HQOK.out)) (Nat.le_refl _)).mono ?_;rintro e w7 ⟨rfl,hb7⟩;rw [HCQ.out];(have hbw7:Below w.heap.size w w7:=hbw6.trans (hb7.mono hbw6.size))))
     refine bodyPost_ret (v:=.tuple #[.slice A7 (n+1) c7,.bool true]) (by simp [results,Tryz.results196,go_sem, *]) rfl ?_
     refine uitemsB_cast HR.out ⟨A7,c7,L7,by rw [HQL.out],hp7,?_,hbw7⟩
     rw [HQL.out]
     exact ((ho7.below hb6).below hb7).wide hwq1 (by have:=hb6.size;have:=hb7.size;omega)
end Go.Proofs.YtlimlolciekimaaGreatDoor
