/- Contracts of the program's and the reference's functions (Script1, TxtA, TxtC, TxtS). -/
import Derived.Lib.AppendStr
import Derived.Lib.Split
import Derived.Test.YtlimlolciekimaaGreatDoorRows
import Derived.Test.YtlimlolciekimaaGreatDoorQHak
import Derived.Test.YtlimlolciekimaaGreatDoorQHq
import Derived.Test.YtlimlolciekimaaGreatDoorQHal
namespace Go.Proofs.YtlimlolciekimaaGreatDoor
set_option maxHeartbeats 1600000
open Go.ChangeShapes Go.WideShapes Go.ChangeAt Go.RowKit
set_option linter.unusedVariables false
set_option maxRecDepth 10000
def actR (x:PAct):ByteArray×Bool:=fmtRes x.k x.a x.b
def lineT (x:PAct):ByteArray:=(actR x).1++⟨#[10]⟩
def scrT (l:List PAct):Nat→ByteArray
 |0=>⟨#[]⟩
 |j+1=>scrT l j++lineT (l.getD j ⟨0,0,0⟩)
def okTo (l:List PAct) (j:Nat):Prop:=∀ i (h:i<l.length),i<j→(actR l[i]).2=true
def scrRes (l:List PAct):ByteArray×Bool:=if l.length≤40∧l.all (fun x=>(actR x).2)=true then (scrT l l.length,true) else (⟨#[]⟩,false)
theorem scrRes_long {l:List PAct} (h:40<l.length):scrRes l=(⟨#[]⟩,false):=by unfold scrRes;rw [if_neg (by omega)]
theorem scrRes_bad {l:List PAct} {j:Nat} (hj:j<l.length) (h:(actR l[j]).2=false):scrRes l=(⟨#[]⟩,false):=by
 unfold scrRes
 rw [if_neg]
 rintro ⟨_,h2⟩
 rw [List.all_eq_true] at h2
 rw [h2 _ (List.getElem_mem hj)] at h
 cases h
theorem scrRes_ok {l:List PAct} (h:l.length≤40) (hk:okTo l l.length):scrRes l=(scrT l l.length,true):=by
 unfold scrRes
 rw [if_pos]
 refine ⟨h,List.all_eq_true.2 fun x hx=>?_⟩
 obtain ⟨i,hi,rfl⟩:=List.getElem_of_mem hx
 exact hk i hi hi
theorem okTo_zero (l:List PAct):okTo l 0:=fun i _ h=>absurd h (Nat.not_lt_zero _)
theorem okTo_succ {l:List PAct} {j:Nat} (h:okTo l j) (hj:j<l.length) (h2:(actR l[j]).2=true):okTo l (j+1):=by
 intro i hi hij
 by_cases h3:i<j
 ·exact h i hi h3
 ·have:i=j:=by omega
  subst this
  exact h2
theorem scrT_succ (l:List PAct) (j:Nat) (hj:j<l.length):scrT l (j+1)=scrT l j++lineT l[j]:=by
 show scrT l j++_=_
 rw [List.getD_eq_getElem?_getD,List.getElem?_eq_getElem hj]
 rfl
theorem wordT_le (k:Nat):(wordT k).size≤6:=by
 unfold wordT
 split <;> decide
theorem actT_le (k:Nat) {a b:Nat} (ha:a≤9) (hb:b≤1000):(actT k a b).size≤1098:=by
 have h1:=wordT_le k
 have h2:=numT_size a
 have h3:=numT_size b
 unfold actT
 split
 ·omega
 ·split
  ·rw [ByteArray.size_append,ByteArray.size_append,size1];omega
  ·rw [ByteArray.size_append,ByteArray.size_append,ByteArray.size_append,ByteArray.size_append,size1];omega
theorem actR_le (x:PAct):(actR x).1.size≤1098:=by
 unfold actR
 cases hc:actOk x.k x.a x.b with
 |false=>rw [fmtRes_no hc];decide
 |true =>
  obtain ⟨_,A,B,h1,h2,h3,h4⟩:=actOk_parts hc
  rw [h1,h2] at hc ⊢
  rw [fmtRes_yes hc]
  exact actT_le _ h3 h4
theorem scrT_le (l:List PAct):∀ j,(scrT l j).size≤1100 * j
 |0=>by show 0≤_;omega
 |j+1=>by
  have ih:=scrT_le l j
  have h:=actR_le (l.getD j ⟨0,0,0⟩)
  show (scrT l j++lineT _).size≤_
  rw [ByteArray.size_append]
  unfold lineT
  rw [ByteArray.size_append,size1]
  omega
set_option maxHeartbeats 3200000 in
theorem i_ScriptText (B:Nat) (A:Option Addr) (n c:Nat) (l:List PAct) (w:World) (hS:Acts w B A n l) (hB:B≤w.heap.size) (ht:Tab w) :
  Calls Tryz.prog 32 #[.slice A n c] w fun e w'=>e=.returned (.tuple #[.string (scrRes l).1,.bool (scrRes l).2])∧Below w.heap.size w w':=by
 have hn:=hS.nb
 have hl:=hS.len
 by_cases h40:40<n
 ·rw [scrRes_long (by omega)]
  clear hl
  go_enter Tryz.func32,Tryz.ntmps32
  go_wp2
  go_ret2
  exact ⟨rfl,Below.refl _ _⟩
 ·have HL:=Lib.hid hl
  clear hl
  go_enter Tryz.func32,Tryz.ntmps32
  go_wp2
  go_loopw [4,14] (fun o i wr=>∃ j:Nat,j≤n∧o=.string (scrT l j)∧i=.int .i64 j∧Hid (okTo l j)∧Below w.heap.size w wr) (fun _ i _=>n - (intOf i).toNat)
  case atStart=>exact ⟨0,Nat.zero_le _,rfl,rfl,okTo_zero l,Below.refl _ _⟩
  case round =>
   obtain ⟨j,hj,rfl,rfl,HO,hb⟩:=hrel
   have hzr:=hb.size
   have hsc:=scrT_le l j
   by_cases hlt:j<n
   ·obtain ⟨hk,ad,rfl,hab,hc0,hc1,hc2⟩:=(hS.below (hb.mono hB)).at_ hlt
    have hra:=actR_le l[j]
    have ov1:¬9223372036854775807<(actR l[j]).1.size+(⟨#[10]⟩:ByteArray).size:=by rw [size1];omega
    have ov2:¬9223372036854775807<(scrT l j).size+((actR l[j]).1++(⟨#[10]⟩:ByteArray)).size:=by rw [ByteArray.size_append,size1];omega
    have HF:=hide (fun (W:World) (h:Tab W)=>(show Calls Tryz.prog 24 #[.agg #[.int .i64 l[j].k,.int .i64 l[j].a,.int .i64 l[j].b]] W fun e w'=>e=.returned (.tuple #[.string (actR l[j]).1,.bool (actR l[j]).2])∧Below W.heap.size W w' from i_FormatAct l[j].k l[j].a l[j].b W h))
    have HR:=Lib.hid (scrT_succ l j hk)
    unfold lineT at HR
    have hb0:Below w.heap.size w (wr.alloc (.cells #[.int .i64 l[j].k,.int .i64 l[j].a,.int .i64 l[j].b] 61)):=hb.trans bel
    have HB:=hide (fun h=>scrRes_bad hk h)
    have HO2:=hide (fun h=>okTo_succ HO.out hk h)
    go_wp2_with fail
    generalize (wr.alloc (.cells #[.int .i64 l[j].k,.int .i64 l[j].a,.int .i64 l[j].b] 61))=w0 at *
    refine (HF.out w0 (ht.below hb0)).mono ?_
    clear HF hc0 hc1 hc2
    generalize actR l[j]=r at *
    rintro e w1 ⟨rfl,hb1⟩
    have hb1':Below w.heap.size w w1:=hb0.trans (hb1.mono hb0.size)
    cases hq:r.2
    ·go_wp2
     go_ret2
     rw [HB.out hq]
     exact ⟨rfl,hb1'⟩
    ·have HO3:=hide (HO2.out hq)
     clear HO2 HB
     go_wp2
     go_roundw
     case rel=>exact ⟨j+1,by omega,by rw [HR.out],by go_num,HO3,hb1'⟩
     case measure=>simp [intOf];omega
   ·have hjn:j=n:=by omega
    subst hjn
    have HE:Hid (scrRes l=(scrT l j,true)):=by
     have hl:=HL.out
     unfold Hid
     rw [scrRes_ok (by omega) (by rw [hl];exact HO.out),hl]
    go_wp2
    go_ret2
    rw [HE.out]
    exact ⟨rfl,hb⟩
set_option linter.unusedSimpArgs false
theorem map_back (p:List ByteArray):(p.map (·.data.toList)).map (fun l=>(⟨l.toArray⟩:ByteArray))=p:=by
 rw [List.map_map]
 refine (List.map_congr_left fun x _=>?_).trans (List.map_id _)
 apply ba_ext;simp
theorem flds_join {p:List ByteArray} (h:cleanP p):flds (joinB p)=p:=by
 unfold flds joinB
 have:=fields_join (p.map (·.data.toList)) (by intro x hx;obtain ⟨y,hy,rfl⟩:=List.mem_map.1 hx;exact h y hy)
 simp only [this]
 exact map_back p
theorem flds_act (k a b:Nat):flds (actT k a b)=actF k a b:=by rw [actT_join];exact flds_join (actF_clean k a b)
theorem dec_size {n:Nat} (h:n≤1000000000):(numT n).size≤10:=by
 have:(numT n).size=(numT n).data.toList.length:=by rw [Array.length_toList];rfl
 rw [this];exact dec_len h
theorem actT_size (k:Nat) {a b:Nat} (ha:a≤9) (hb:b≤1000):(actT k a b).size≤28:=by
 have h1:=wordT_le k
 have h2:=dec_size (n:=a) (by omega)
 have h3:=dec_size (n:=b) (by omega)
 unfold actT
 split
 ·omega
 ·split
  ·rw [ByteArray.size_append,ByteArray.size_append,size1];omega
  ·rw [ByteArray.size_append,ByteArray.size_append,ByteArray.size_append,ByteArray.size_append,size1];omega
def prL (l:List UInt8):Bool:=l.all pr
theorem prL_app (l r:List UInt8):prL (l++r)=(prL l&&prL r):=by unfold prL;rw [List.all_append]
theorem digL_pr {l:List UInt8} (h:digL l=true):prL l=true:=by
 unfold digL at h
 unfold prL pr
 rw [List.all_eq_true] at h ⊢
 intro b hb
 have:=h b hb
 simp only [Bool.and_eq_true,decide_eq_true_eq] at this ⊢
 omega
theorem num_pr (n:Nat):prL (numT n).data.toList=true:=digL_pr (digL_dec n)
theorem word_pr:∀ k,prL (wordT k).data.toList=true:=by
 intro k
 unfold wordT
 split <;> decide
theorem act_pr (k a b:Nat):prL (actT k a b).data.toList=true:=by
 have h0:prL [32]=true:=by decide
 unfold actT
 split
 ·exact word_pr k
 ·split
  ·simp only [ByteArray.data_append,Array.toList_append,prL_app,word_pr,num_pr,Bool.true_and,Bool.and_true];exact h0
  ·simp only [ByteArray.data_append,Array.toList_append,prL_app,word_pr,num_pr,Bool.true_and,Bool.and_true,Bool.and_eq_true];exact ⟨h0,h0⟩
theorem fldOk_of {s:ByteArray} (h1:s.size≤600) (h2:prL s.data.toList=true) (h3:(flds s).length≤24):fldOk s=true:=by
 unfold fldOk
 unfold prL pr at h2
 rw [h2]
 simp [h1,h3]
theorem act_line {k a b:Nat} (ha:a≤9) (hb:b≤1000):fldOk (actT k a b)=true:=by
 have:=actF_len k a b
 exact fldOk_of (by have:=actT_size k ha hb;omega) (act_pr k a b) (by rw [flds_act];omega)
def tailT (pre:ByteArray) (l:List ByteArray):ByteArray:=⟨(pre.data.toList++Lib.joinTail [32] (l.map (·.data.toList))).toArray⟩
theorem tailT_nil (pre:ByteArray):tailT pre []=pre:=by apply ba_ext;simp [tailT,Lib.joinTail]
theorem tailT_snoc (pre:ByteArray) (l:List ByteArray) (x:ByteArray):tailT pre (l++[x])=tailT pre l++(⟨#[32]⟩++x):=by
 apply ba_ext;simp [tailT,Lib.joinTail,ByteArray.data_append]
theorem tailT_take (pre:ByteArray) (l:List ByteArray) {k:Nat} (hk:k<l.length):tailT pre (l.take (k+1))=tailT pre (l.take k)++(⟨#[32]⟩++l[k]):=by
 rw [List.take_succ_eq_append_getElem hk,tailT_snoc]
theorem one_size (x:UInt8):(⟨#[x]⟩:ByteArray).size=1:=rfl
theorem tailT_size (pre:ByteArray) (m:Nat):∀ l:List ByteArray,(∀ x∈l,x.size≤m)→(tailT pre l).size≤pre.size+l.length * (m+1):=by
 intro l
 generalize hn:l.length=n
 induction n generalizing l with
 |zero =>
  intro _
  rw [List.length_eq_zero_iff.1 hn,tailT_nil];omega
 |succ n ih =>
  intro h
  have hne:l≠[]:=by rintro rfl;simp at hn
  have hl:=List.dropLast_concat_getLast hne
  rw [← hl,tailT_snoc,ByteArray.size_append,ByteArray.size_append,one_size]
  have h1:=ih l.dropLast (by rw [List.length_dropLast];omega) (fun x hx=>h x (List.dropLast_subset _ hx))
  have h2:=h (l.getLast hne) (List.getLast_mem hne)
  rw [Nat.add_mul];omega
def headT (d f:Nat):ByteArray:=numT d++⟨#[120]⟩++numT f
def cardT (d f:Nat) (ss:List ByteArray):ByteArray:=headT d f++⟨#[58,32]⟩++joinB ss
theorem index_no (c:UInt8):∀ l:List UInt8,c∉l→Lib.index l [c] = -1
 |[],_=>rfl
 |b :: l,h=>by
  have h1:¬c=b:=fun e=>h (by simp [e])
  have ih:=index_no c l (fun e=>h (by simp [e]))
  unfold Lib.index
  rw [ih]
  simp [h1]
theorem index_yes (c:UInt8) (v:List UInt8):∀ u:List UInt8,c∉u→Lib.index (u++c :: v) [c]=u.length
 |[],_=>by
  show Lib.index (c :: v) [c]=0
  unfold Lib.index;simp
 |b :: u,h=>by
  have h1:¬c=b:=fun e=>h (by simp [e])
  have ih:=index_yes c v u (fun e=>h (by simp [e]))
  rw [List.cons_append]
  unfold Lib.index
  rw [ih]
  have h2:(((u.length:Nat):Int)==-1)=false:=by simp
  simp [h1,h2]
def spl (c:UInt8):List UInt8→List UInt8→List (List UInt8)
 |cur,[]=>[cur]
 |cur,b :: l=>if b=c then cur :: spl c [] l else spl c (cur++[b]) l
theorem spl_word (c:UInt8):∀ (x cur r:List UInt8),c∉x→spl c cur (x++r)=spl c (cur++x) r
 |[],cur,r,_=>by simp
 |b :: x,cur,r,h=>by
  have h1:¬b=c:=fun e=>h (by simp [e])
  rw [List.cons_append]
  show (if b=c then _ else _)=_
  rw [if_neg h1,spl_word c x (cur++[b]) r (fun e=>h (by simp [e]))]
  simp
theorem spl_none (c:UInt8) (l:List UInt8) (h:c∉l):spl c [] l=[l]:=by
 have:=spl_word c l [] [] h
 simpa [spl] using this
theorem spl_cut (c:UInt8) (u v:List UInt8) (h:c∉u):spl c [] (u++c :: v)=u :: spl c [] v:=by
 rw [spl_word c u [] _ h]
 show (if c=c then _ else _)=_
 rw [if_pos rfl];simp
theorem mem_cut1 (c:UInt8):∀ l:List UInt8,c∈l→∃ u v,l=u++c :: v∧c∉u
 |[],h=>by simp at h
 |b :: l,h=>by
  by_cases hb:b=c
  ·exact ⟨[],l,by simp [hb],by simp⟩
  ·obtain ⟨u,v,h1,h2⟩:=mem_cut1 c l (by rcases List.mem_cons.1 h with h|h;exact absurd h.symm hb;exact h)
   exact ⟨b :: u,v,by simp [h1],by simp [h2];exact fun e=>hb e.symm⟩
theorem split_spl (c:UInt8):∀ (fuel:Nat) (l:List UInt8),l.length<fuel→Lib.splitK [c] 0 (Lib.countFrom [c] fuel l) l=spl c [] l
 |0,l,h=>by omega
 |fuel+1,l,h=>by
  by_cases hc:c∈l
  ·obtain ⟨u,v,rfl,hu⟩:=mem_cut1 c l hc
   have ix:=index_yes c v u hu
   have h2:(((u.length:Nat):Int)==-1)=false:=by simp
   unfold Lib.countFrom
   rw [ix,h2]
   simp only [Bool.false_eq_true,if_false]
   rw [Nat.add_comm]
   unfold Lib.splitK
   rw [ix,h2]
   simp only [Bool.false_eq_true,if_false,Int.toNat_natCast,Nat.add_zero]
   rw [List.take_left,spl_cut c u v hu]
   have hd:(u++c :: v).drop (u.length+[c].length)=v:=by simp
   rw [hd,split_spl c fuel v (by simp at h;omega)]
  ·have ix:=index_no c l hc
   unfold Lib.countFrom
   rw [ix,spl_none c l hc]
   rfl
theorem pieces (c:UInt8) (s:ByteArray):Lib.splitB ⟨#[c]⟩ 0 (Lib.countB s ⟨#[c]⟩) s=(spl c [] s.data.toList).map fun l=>⟨l.toArray⟩:=by
 have h1:=Lib.splitB_data ⟨#[c]⟩ 0 (Lib.countB s ⟨#[c]⟩) s
 have h2:=split_spl c (s.data.toList.length+1) s.data.toList (Nat.lt_succ_self _)
 have h3:(Lib.splitB ⟨#[c]⟩ 0 (Lib.countB s ⟨#[c]⟩) s).map (·.data.toList)=spl c [] s.data.toList:=h1.trans h2
 rw [← h3,List.map_map]
 symm
 refine (List.map_congr_left fun x _=>?_).trans (List.map_id _)
 apply ba_ext;simp
def scanL:List ByteArray→Option (List PAct)
 |[]=>some []
 |x :: r=>if fldOk x=true then (if flds x=[] then scanL r else if parOk (flds x)=true then (scanL r).map (⟨(pK (flds x):Int),(pN (flds x) 1:Int),(pN (flds x) 2:Int)⟩ :: ·) else none) else none
theorem scanL_cons (x:ByteArray) (r:List ByteArray):scanL (x :: r)=if fldOk x=true then (if flds x=[] then scanL r else if parOk (flds x)=true then (scanL r).map (⟨(pK (flds x):Int),(pN (flds x) 1:Int),(pN (flds x) 2:Int)⟩ :: ·) else none) else none:=rfl
theorem scanL_skip {x:ByteArray} {r:List ByteArray} (h1:fldOk x=true) (h2:flds x=[]):scanL (x :: r)=scanL r:=by
 rw [scanL_cons,if_pos h1,if_pos h2]
theorem scanL_bad {x:ByteArray} {r:List ByteArray} (h1:¬(fldOk x=true∧flds x=[])) (h2:¬(fldOk x=true∧parOk (flds x)=true)):scanL (x :: r)=none:=by
 rw [scanL_cons]
 by_cases h3:fldOk x=true
 ·rw [if_pos h3,if_neg (fun h=>h1 ⟨h3,h⟩),if_neg (fun h=>h2 ⟨h3,h⟩)]
 ·rw [if_neg h3]
theorem scanL_act {x:ByteArray} {r:List ByteArray} (h1:fldOk x=true) (h2:parOk (flds x)=true):scanL (x :: r)=(scanL r).map (⟨(pK (flds x):Int),(pN (flds x) 1:Int),(pN (flds x) 2:Int)⟩ :: ·):=by
 have h3:=(parOk_len h2).1
 rw [scanL_cons,if_pos h1,if_neg (by intro h;rw [h] at h3;simp at h3),if_pos h2]
theorem fldOk_nil:fldOk ⟨#[]⟩=true∧flds ⟨#[]⟩=[]:=⟨by decide,rfl⟩
theorem pr_ne10 {l:List UInt8} (h:prL l=true):(10:UInt8)∉l:=by
 intro hm
 unfold prL at h
 rw [List.all_eq_true] at h
 have:=h 10 hm
 revert this;decide
def linesOf (s:ByteArray):List ByteArray:=(spl 10 [] s.data.toList).map fun l=>⟨l.toArray⟩
theorem script_lines (l:List PAct) (h:∀ x∈l,actOk x.k x.a x.b=true):∀ j,j≤l.length→spl 10 [] (scrT l j).data.toList=((l.take j).map fun x=>(actR x).1.data.toList)++[[]]
 |0,_=>rfl
 |j+1,hj=>by
  have ih:=script_lines l h j (by omega)
  have hlt:j<l.length:=by omega
  rw [scrT_succ l j hlt,List.take_succ_eq_append_getElem hlt]
  have ho:=h l[j] (List.getElem_mem hlt)
  have hpr:prL (actR l[j]).1.data.toList=true:=by
   obtain ⟨_,A,B,h1,h2,_,_⟩:=actOk_parts ho
   unfold actR fmtRes
   rw [if_pos ho]
   exact act_pr _ _ _
  have h10:=pr_ne10 hpr
  unfold lineT
  have gen:∀ (u:List UInt8) (ps:List (List UInt8)) (x cur:List UInt8),spl 10 cur u=ps++[[]]→10∉x→spl 10 cur (u++(x++[10]))=ps++[x]++[[]]:=by
   intro u
   induction u with
   |nil =>
    intro ps x cur hq hx
    unfold spl at hq
    have hp:ps=[]∧cur=[]:=by
     cases ps with
     |nil=>simp at hq;exact ⟨rfl,hq⟩
     |cons a b=>simp at hq
    obtain ⟨rfl,rfl⟩:=hp
    rw [List.nil_append,spl_word 10 x [] [10] hx]
    simp [spl]
   |cons b u ih2 =>
    intro ps x cur hq hx
    show spl 10 cur (b :: (u++(x++[10])))=_
    unfold spl at hq ⊢
    split
    ·rename_i hb
     rw [if_pos hb] at hq
     cases ps with
     |nil =>
      simp at hq
      exfalso
      have:=hq.2
      cases u with
      |nil=>simp [spl] at this
      |cons c v =>
       unfold spl at this
       split at this
       ·simp at this
       ·have hne:∀ (z cur:List UInt8),spl 10 cur z≠[]:=by
         intro z
         induction z with
         |nil=>intro cur;simp [spl]
         |cons q z ih3 =>
          intro cur
          unfold spl
          split
          ·simp
          ·exact ih3 _
        exact hne _ _ this
     |cons p ps =>
      simp only [List.cons_append,List.cons.injEq] at hq
      obtain ⟨rfl,hq⟩:=hq
      rw [ih2 ps x [] hq hx]
      simp
    ·rename_i hb
     rw [if_neg hb] at hq
     exact ih2 ps x _ hq hx
  have:=gen _ _ (actR l[j]).1.data.toList [] ih h10
  rw [ByteArray.data_append,Array.toList_append,ByteArray.data_append,Array.toList_append]
  rw [this,List.map_append]
  rfl
theorem scan_acts:∀ (l:List PAct),(∀ x∈l,actOk x.k x.a x.b=true)→scanL (l.map (fun x=>(actR x).1)++[⟨#[]⟩])=some l
 |[],_=>by
  show scanL [⟨#[]⟩]=some []
  rw [scanL_skip fldOk_nil.1 fldOk_nil.2];rfl
 |x :: l,h=>by
  have ho:=h x (by simp)
  obtain ⟨hk,A,B,h1,h2,h3,h4⟩:=actOk_parts ho
  obtain ⟨k,a,b⟩:=x
  simp only at h1 h2 hk ho
  subst h1 h2
  obtain ⟨K,rfl⟩:∃ K:Nat,k=K:=⟨k.toNat,by omega⟩
  have e:(actR ⟨(K:Int),(A:Int),(B:Int)⟩).1=actT K A B:=by
   unfold actR
   rw [fmtRes_yes ho];rfl
  have hd:=act_det ho rfl
  have hp:=parOk_of ho rfl
  rw [List.map_cons,List.cons_append,e,scanL_act (act_line h3 h4) (by rw [flds_act];exact hp),flds_act,hd.1,hd.2.1,hd.2.2,scan_acts l fun y hy=>h y (by simp [hy])]
  rfl
theorem scan_script (l:List PAct) (h:∀ x∈l,actOk x.k x.a x.b=true):scanL (linesOf (scrT l l.length))=some l:=by
 unfold linesOf
 rw [script_lines l h l.length (Nat.le_refl _),List.take_length,List.map_append]
 have:=scan_acts l h
 rw [List.map_map]
 have e:(l.map ((fun l=>(⟨l.toArray⟩:ByteArray)) ∘ fun x=>(actR x).1.data.toList))=l.map (fun x=>(actR x).1):=by
  refine List.map_congr_left fun x _=>?_
  apply ba_ext;simp
 rw [e]
 exact this
end Go.Proofs.YtlimlolciekimaaGreatDoor
