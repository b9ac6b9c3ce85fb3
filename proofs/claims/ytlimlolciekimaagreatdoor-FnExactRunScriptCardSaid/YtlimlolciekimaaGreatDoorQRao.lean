/- Contracts of the program's and the reference's functions (Script1, TxtA, TxtC, TxtS). -/
import Derived.Lib.AppendStr
import Derived.Lib.Split
import Derived.Test.YtlimlolciekimaaGreatDoorRows
import Derived.Test.YtlimlolciekimaaGreatDoorQRak
import Derived.Test.YtlimlolciekimaaGreatDoorQRq
import Derived.Test.YtlimlolciekimaaGreatDoorQRal
namespace Go.Proofs.YtlimlolciekimaaGreatDoor
set_option maxHeartbeats 1600000
open Go.ChangeShapes Go.WideShapes Go.ChangeAt Go.RowKit
set_option linter.unusedVariables false
set_option maxRecDepth 10000
def ZpN (x:Zbw):ByteArray×Bool:=Zcx x.k x.a x.b
def ZpW (x:Zbw):ByteArray:=(ZpN x).1++⟨#[10]⟩
def Zqd (l:List Zbw):Nat→ByteArray
 |0=>⟨#[]⟩
 |j+1=>Zqd l j++ZpW (l.getD j ⟨0,0,0⟩)
def ZqG (l:List Zbw) (j:Nat):Prop:=∀ i (h:i<l.length),i<j→(ZpN l[i]).2=true
def Zqw (l:List Zbw):ByteArray×Bool:=if l.length≤40∧l.all (fun x=>(ZpN x).2)=true then (Zqd l l.length,true) else (⟨#[]⟩,false)
set_option linter.unusedSimpArgs false
def prL (l:List UInt8):Bool:=l.all pr
def ZbP (pre:ByteArray) (l:List ByteArray):ByteArray:=⟨(pre.data.toList++Lib.joinTail [32] (l.map (·.data.toList))).toArray⟩
theorem ZdB (pre:ByteArray):ZbP pre []=pre:=by apply ZbZ;simp [ZbP,Lib.joinTail]
theorem Zij (pre:ByteArray) (l:List ByteArray) (x:ByteArray):ZbP pre (l++[x])=ZbP pre l++(⟨#[32]⟩++x):=by
 apply ZbZ;simp [ZbP,Lib.joinTail,ByteArray.data_append]
theorem ZkM (pre:ByteArray) (l:List ByteArray) (x:ByteArray):ZbP pre (l++[x])=ZbP pre l++⟨#[32]⟩++x:=by
 apply ZbZ;simp [ZbP,Lib.joinTail,ByteArray.data_append]
theorem Ziw (pre:ByteArray) (l:List ByteArray) {k:Nat} (hk:k<l.length):ZbP pre (l.take (k+1))=ZbP pre (l.take k)++(⟨#[32]⟩++l[k]):=by
 rw [List.take_succ_eq_append_getElem hk,Zij]
theorem Ze5 (pre:ByteArray) (l:List ByteArray) {k:Nat} (hk:k<l.length):ZbP pre (l.take (k+1))=ZbP pre (l.take k)++⟨#[32]⟩++l[k]:=by
 rw [List.take_succ_eq_append_getElem hk,ZkM]
theorem Zoy (x:UInt8):(⟨#[x]⟩:ByteArray).size=1:=rfl
theorem ZcE (pre:ByteArray) (m:Nat):∀ l:List ByteArray,(∀ x∈l,x.size≤m)→(ZbP pre l).size≤pre.size+l.length * (m+1):=by
 intro l
 generalize hn:l.length=n
 induction n generalizing l with
 |zero =>
  intro _
  rw [List.length_eq_zero_iff.1 hn,ZdB];omega
 |succ n ih =>
  intro h
  have hne:l≠[]:=by rintro rfl;simp at hn
  have hl:=List.dropLast_concat_getLast hne
  rw [← hl,Zij,ByteArray.size_append,ByteArray.size_append,Zoy]
  have h1:=ih l.dropLast (by rw [List.length_dropLast];omega) (fun x hx=>h x (List.dropLast_subset _ hx))
  have h2:=h (l.getLast hne) (List.getLast_mem hne)
  rw [Nat.add_mul];omega
def ZnD (d f:Nat):ByteArray:=Zan d++⟨#[120]⟩++Zan f
def Zen (d f:Nat) (ss:List ByteArray):ByteArray:=ZnD d f++⟨#[58,32]⟩++ZbC ss
theorem ZlY (d f:Nat) {ss:List ByteArray} (h:ss≠[]):Zen d f ss=ZbP (ZnD d f++⟨#[58]⟩) ss:=by
 apply ZbZ
 cases ss with
 |nil=>exact absurd rfl h
 |cons x r =>
  unfold Zen ZbC ZbP
  simp only [ByteArray.data_append,Array.toList_append,List.map_cons,Lib.join_cons]
  simp [Lib.joinTail]
theorem Zkq (c:UInt8):∀ l:List UInt8,c∉l→Lib.index l [c] = -1
 |[],_=>rfl
 |b :: l,h=>by
  have h1:¬c=b:=fun e=>h (by simp [e])
  have ih:=Zkq c l (fun e=>h (by simp [e]))
  unfold Lib.index
  rw [ih]
  simp [h1]
theorem Zje (c:UInt8) (v:List UInt8):∀ u:List UInt8,c∉u→Lib.index (u++c :: v) [c]=u.length
 |[],_=>by
  show Lib.index (c :: v) [c]=0
  unfold Lib.index;simp
 |b :: u,h=>by
  have h1:¬c=b:=fun e=>h (by simp [e])
  have ih:=Zje c v u (fun e=>h (by simp [e]))
  rw [List.cons_append]
  unfold Lib.index
  rw [ih]
  have h2:(((u.length:Nat):Int)==-1)=false:=by simp
  simp [h1,h2]
def spl (c:UInt8):List UInt8→List UInt8→List (List UInt8)
 |cur,[]=>[cur]
 |cur,b :: l=>if b=c then cur :: spl c [] l else spl c (cur++[b]) l
theorem Zig (c:UInt8):∀ (x cur r:List UInt8),c∉x→spl c cur (x++r)=spl c (cur++x) r
 |[],cur,r,_=>by simp
 |b :: x,cur,r,h=>by
  have h1:¬b=c:=fun e=>h (by simp [e])
  rw [List.cons_append]
  show (if b=c then _ else _)=_
  rw [if_neg h1,Zig c x (cur++[b]) r (fun e=>h (by simp [e]))]
  simp
theorem Zn8 (c:UInt8) (l:List UInt8) (h:c∉l):spl c [] l=[l]:=by
 have:=Zig c l [] [] h
 simpa [spl] using this
theorem ZoY (c:UInt8) (u v:List UInt8) (h:c∉u):spl c [] (u++c :: v)=u :: spl c [] v:=by
 rw [Zig c u [] _ h]
 show (if c=c then _ else _)=_
 rw [if_pos rfl];simp
theorem Zj9 (c:UInt8):∀ l:List UInt8,c∈l→∃ u v,l=u++c :: v∧c∉u
 |[],h=>by simp at h
 |b :: l,h=>by
  by_cases hb:b=c
  ·exact ⟨[],l,by simp [hb],by simp⟩
  ·obtain ⟨u,v,h1,h2⟩:=Zj9 c l (by rcases List.mem_cons.1 h with h|h;exact absurd h.symm hb;exact h)
   exact ⟨b :: u,v,by simp [h1],by simp [h2];exact fun e=>hb e.symm⟩
theorem Zi2 (c:UInt8):∀ (fuel:Nat) (l:List UInt8),l.length<fuel→Lib.splitK [c] 0 (Lib.countFrom [c] fuel l) l=spl c [] l
 |0,l,h=>by omega
 |fuel+1,l,h=>by
  by_cases hc:c∈l
  ·obtain ⟨u,v,rfl,hu⟩:=Zj9 c l hc
   have ix:=Zje c v u hu
   have h2:(((u.length:Nat):Int)==-1)=false:=by simp
   unfold Lib.countFrom
   rw [ix,h2]
   simp only [Bool.false_eq_true,if_false]
   rw [Nat.add_comm]
   unfold Lib.splitK
   rw [ix,h2]
   simp only [Bool.false_eq_true,if_false,Int.toNat_natCast,Nat.add_zero]
   rw [List.take_left,ZoY c u v hu]
   have hd:(u++c :: v).drop (u.length+[c].length)=v:=by simp
   rw [hd,Zi2 c fuel v (by simp at h;omega)]
  ·have ix:=Zkq c l hc
   unfold Lib.countFrom
   rw [ix,Zn8 c l hc]
   rfl
theorem Zn7 (c:UInt8) (s:ByteArray):Lib.splitB ⟨#[c]⟩ 0 (Lib.countB s ⟨#[c]⟩) s=(spl c [] s.data.toList).map fun l=>⟨l.toArray⟩:=by
 have h1:=Lib.splitB_data ⟨#[c]⟩ 0 (Lib.countB s ⟨#[c]⟩) s
 have h2:=Zi2 c (s.data.toList.length+1) s.data.toList (Nat.lt_succ_self _)
 have h3:(Lib.splitB ⟨#[c]⟩ 0 (Lib.countB s ⟨#[c]⟩) s).map (·.data.toList)=spl c [] s.data.toList:=h1.trans h2
 rw [← h3,List.map_map]
 symm
 refine (List.map_congr_left fun x _=>?_).trans (List.map_id _)
 apply ZbZ;simp
def Zby:List ByteArray→Option (List Zbw)
 |[]=>some []
 |x :: r=>if ZbI x=true then (if ZaP x=[] then Zby r else if ZbE (ZaP x)=true then (Zby r).map (⟨(pK (ZaP x):Int),(pN (ZaP x) 1:Int),(pN (ZaP x) 2:Int)⟩ :: ·) else none) else none
theorem ZfE (x:ByteArray) (r:List ByteArray):Zby (x :: r)=if ZbI x=true then (if ZaP x=[] then Zby r else if ZbE (ZaP x)=true then (Zby r).map (⟨(pK (ZaP x):Int),(pN (ZaP x) 1:Int),(pN (ZaP x) 2:Int)⟩ :: ·) else none) else none:=rfl
theorem ZfQ {x:ByteArray} {r:List ByteArray} (h1:ZbI x=true) (h2:ZaP x=[]):Zby (x :: r)=Zby r:=by
 rw [ZfE,if_pos h1,if_pos h2]
theorem Zfd {x:ByteArray} {r:List ByteArray} (h1:¬(ZbI x=true∧ZaP x=[])) (h2:¬(ZbI x=true∧ZbE (ZaP x)=true)):Zby (x :: r)=none:=by
 rw [ZfE]
 by_cases h3:ZbI x=true
 ·rw [if_pos h3,if_neg (fun h=>h1 ⟨h3,h⟩),if_neg (fun h=>h2 ⟨h3,h⟩)]
 ·rw [if_neg h3]
theorem ZgE {x:ByteArray} {r:List ByteArray} (h1:ZbI x=true) (h2:ZbE (ZaP x)=true):Zby (x :: r)=(Zby r).map (⟨(pK (ZaP x):Int),(pN (ZaP x) 1:Int),(pN (ZaP x) 2:Int)⟩ :: ·):=by
 have h3:=(Zjv h2).1
 rw [ZfE,if_pos h1,if_neg (by intro h;rw [h] at h3;simp at h3),if_pos h2]
theorem ZgV:∀ (l:List ByteArray) (a:List Zbw),Zby l=some a→a.length≤l.length∧∀ x∈a,ZaW x.k x.a x.b=true
 |[],a,h=>by
  unfold Zby at h
  injection h with h
  subst h
  exact ⟨Nat.le_refl _,by simp⟩
 |x :: r,a,h=>by
  by_cases h1:ZbI x=true
  ·by_cases h2:ZaP x=[]
   ·rw [ZfQ h1 h2] at h
    have:=ZgV r a h
    exact ⟨by simp;omega,this.2⟩
   ·by_cases h3:ZbE (ZaP x)=true
    ·rw [ZgE h1 h3] at h
     cases hq:Zby r with
     |none=>rw [hq] at h;cases h
     |some q =>
      rw [hq] at h
      injection h with h
      subst h
      have:=ZgV r q hq
      refine ⟨by simp;omega,?_⟩
      intro y hy
      rcases List.mem_cons.1 hy with rfl|hy
      ·unfold ZbE at h3
       simp only [Bool.and_eq_true] at h3
       exact h3.1
      ·exact this.2 y hy
    ·rw [Zfd (fun h=>h2 h.2) (fun h=>h3 h.2)] at h
     cases h
  ·rw [Zfd (fun h=>h1 h.1) (fun h=>h1 h.1)] at h
   cases h
def Zbu (s:ByteArray):List ByteArray:=(spl 10 [] s.data.toList).map fun l=>⟨l.toArray⟩
end Go.Proofs.YtlimlolciekimaaGreatDoor
