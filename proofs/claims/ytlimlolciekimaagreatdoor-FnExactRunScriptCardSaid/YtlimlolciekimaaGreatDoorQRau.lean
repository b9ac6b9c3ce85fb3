/- Contracts of the program's and the reference's functions (TxtR). -/
import Derived.Test.YtlimlolciekimaaGreatDoorRows
import Derived.Test.YtlimlolciekimaaGreatDoorQRao
import Derived.Test.YtlimlolciekimaaGreatDoorQRat
import Derived.Test.YtlimlolciekimaaGreatDoorQRar
import Derived.Test.YtlimlolciekimaaGreatDoorQRr
import Derived.Test.YtlimlolciekimaaGreatDoorQRw
import Derived.Test.YtlimlolciekimaaGreatDoorQRp
namespace Go.Proofs.YtlimlolciekimaaGreatDoor
set_option maxHeartbeats 1600000
open Go.ChangeShapes Go.WideShapes Go.ChangeAt Go.RowKit
set_option linter.unusedVariables false
set_option linter.unusedSimpArgs false
set_option maxRecDepth 10000
theorem Zlm:∀ (l:List UInt8) (u:Int),(∀ x∈l,x=100∨x=102)→(cnt 100 l:Int)≤u→∀ x∈hts u l,0≤x
 |[],_,_,_,x,hx=>by cases hx
 |c :: l,u,ha,h,x,hx=>by
  have hl:∀ x∈l,x=100∨x=102:=fun y hy=>ha y (by simp [hy])
  unfold cnt at h
  rw [List.count_cons] at h
  simp only [hts] at hx
  split at hx
  ·rename_i hc
   subst hc
   simp at h
   rcases List.mem_cons.1 hx with rfl|hx
   ·omega
   ·exact Zlm l u hl h x hx
  ·rename_i hc
   have hc1:c=100:=by
    rcases ha c (by simp) with h1|h1
    ·exact h1
    ·exact absurd h1 hc
   subst hc1
   simp at h
   exact Zlm l (u - 1) hl (by unfold cnt;omega) x hx
theorem Zme:∀ (a:List Int),(∀ x∈a,0≤x)→0≤ZdU a
 |[],_=>by simp [ZdU]
 |x :: a,h=>by
  have h1:=h x (by simp)
  have h2:=Zme a fun y hy=>h y (by simp [hy])
  simp only [ZdU];omega
theorem Zmy:∀ (ss:List ByteArray),(∀ s∈ss,Zar s.data.toList=true)→0≤ZdR ss
 |[],_=>by simp [ZdR]
 |s :: ss,h=>by
  have h1:=h s (by simp)
  have h2:=Zmy ss fun y hy=>h y (by simp [hy])
  have h3:0≤ZdJ s.data.toList:=by
   rw [ZeH h1]
   exact Zme _ (Zlm _ _ (Zno h1) (Int.le_refl _))
  simp only [ZdR];omega
theorem ZmM {d f:Int} {ss:List ByteArray} (h:Zac d f ss=true):0≤ZcP d f ss∧ZcP d f ss≤1280:=by
 have h1:=Zmy ss (Zj8 h).2
 have h2:=(ZjS ss).2
 have h3:=(Zk2 h).2.1.2
 unfold ZcP
 rw [if_pos h]
 exact ⟨h1,by omega⟩
theorem ZmY {W:Zh} {k a b:Int} (h:Zp W=true) (ha:ZaW k a b=true):0≤(Zs W k a b).2∧(Zs W k a b).2≤1280:=by
 unfold Zs
 rw [if_pos ⟨h,ha⟩]
 split
 ·exact ZmM (Zew (Za3.1 h).1)
 ·show 0≤(if _ then (1:Int) else 0)∧(if _ then (1:Int) else 0)≤1280
  split <;> omega
theorem Zif:∀ (l:List Zbw) (W:Zh) (xs:List Int),Zp W=true→(∀ x∈l,ZaW x.k x.a x.b=true)→(∀ x∈xs,0≤x∧x≤1280)→∀ x∈(Zcn W xs l).2,0≤x∧x≤1280
 |[],_,_,_,_,h,x,hx=>h x hx
 |y :: l,W,xs,hw,hl,h,x,hx=>by
  refine Zif l _ _ (ZhO hw) (fun z hz=>hl z (by simp [hz])) ?_ x hx
  intro z hz
  rcases List.mem_append.1 hz with hz|hz
  ·exact h z hz
  ·rw [List.mem_singleton.1 hz];exact ZmY hw (hl y (by simp))
theorem Zlk {W:Zh} {l:List Zbw} (hw:Zp W=true) (hl:∀ x∈l,ZaW x.k x.a x.b=true):∀ x∈(ZaB W l).2,0≤x∧x≤1280:=by
 unfold ZaB
 split
 ·exact Zif l W [] hw hl fun x hx=>by cases hx
 ·intro x hx;cases hx
def ZcI (xs:List Int):List ByteArray:=xs.map fun x=>Zan x.toNat
theorem Zji:Zp ⟨⟨3,4,Zap,3,4,Zap,[]⟩,[],[],100⟩=true:=ZlT (Zkl (by decide)) (by omega) (by omega)
def ZaO:Zh:=(Za4 3 4 Zap 100).1
theorem Zlg:ZaO=⟨⟨3,4,Zap,3,4,Zap,[]⟩,[],[],100⟩:=by
 unfold ZaO;rw [ZgG Zji]
theorem ZfO:Zp ZaO=true:=by rw [Zlg];exact Zji
theorem ZgL:ZaI ZaO.D ZaO.P ZaO.pp 1048576:=ZnU 3 4 Zap 100 Zeh
def ZcR (s:ByteArray):Option (List Zbw):=if s.size≤20000 then (Zby (Zbu s)).bind (fun l=>if l.length≤40 then some l else none) else none
def ZoL (l:List Zbw):List ByteArray:=ZcI (ZaB ZaO l).2++ZdK (ZaB ZaO l).1
theorem ZgZ {s:ByteArray} (h:20000<s.size):ZcR s=none:=by unfold ZcR;rw [if_neg (by omega)]
theorem Zhf {s:ByteArray} (h:Zby (Zbu s)=none):ZcR s=none:=by unfold ZcR;rw [h];split <;> rfl
theorem Zhh {s:ByteArray} {l:List Zbw} (h:Zby (Zbu s)=some l) (h2:40<l.length):ZcR s=none:=by
 unfold ZcR;rw [h];split
 ·show (if _ then _ else _)=_;rw [if_neg (by omega)]
 ·rfl
theorem Zib {s:ByteArray} {l:List Zbw} (h0:s.size≤20000) (h:Zby (Zbu s)=some l) (h2:l.length≤40):ZcR s=some l:=by
 unfold ZcR;rw [if_pos h0,h];show (if _ then _ else _)=_;rw [if_pos h2]
structure SC (ls:List ByteArray) (k:Nat) (la:List Zbw):Prop where
 eq:Zby ls=(Zby (ls.drop k)).map (la++·)
 len:la.length≤k
 ok:∀ x∈la,ZaW x.k x.a x.b=true
theorem Zhc (o:Option (List Zbw)):o=o.map (([]:List Zbw)++·):=by cases o <;> simp
theorem Zhi (la:List Zbw) (x:Zbw) (o:Option (List Zbw)):(o.map (x :: ·)).map (la++·)=o.map ((la++[x])++·):=by cases o <;> simp
theorem SC.start (ls:List ByteArray):SC ls 0 []:=⟨by rw [List.drop_zero];exact Zhc _,Nat.le_refl _,fun x hx=>by cases hx⟩
theorem ZnO {x:ByteArray} (h3:ZbE (ZaP x)=true):ZaW (pK (ZaP x):Int) (pN (ZaP x) 1:Int) (pN (ZaP x) 2:Int)=true:=by
 unfold ZbE at h3
 simp only [Bool.and_eq_true] at h3
 exact h3.1
def ZoS (x:ByteArray):Zbw:=⟨(pK (ZaP x):Int),(pN (ZaP x) 1:Int),(pN (ZaP x) 2:Int)⟩
theorem SC.skip {ls:List ByteArray} {k:Nat} {la:List Zbw} (h:SC ls k la) (hk:k<ls.length) (h1:ZbI ls[k]=true) (h2:ZaP ls[k]=[]):SC ls (k+1) la :=
 ⟨by rw [h.eq,List.drop_eq_getElem_cons hk,ZfQ h1 h2],by have:=h.len;omega,h.ok⟩
theorem SC.act {ls:List ByteArray} {k:Nat} {la:List Zbw} (h:SC ls k la) (hk:k<ls.length) (h1:ZbI ls[k]=true) (h2:ZbE (ZaP ls[k])=true):SC ls (k+1) (la++[ZoS ls[k]]) :=
 ⟨by rw [h.eq,List.drop_eq_getElem_cons hk,ZgE h1 h2];exact Zhi _ _ _,by have:=h.len;simp;omega,fun x hx=>by
  rcases List.mem_append.1 hx with hx|hx
  ·exact h.ok x hx
  ·rw [List.mem_singleton.1 hx];exact ZnO h2⟩
theorem SC.bad {ls:List ByteArray} {k:Nat} {la:List Zbw} (h:SC ls k la) (hk:k<ls.length) (h1:¬(ZbI ls[k]=true∧ZaP ls[k]=[])) (h2:¬(ZbI ls[k]=true∧ZbE (ZaP ls[k])=true)):Zby ls=none:=by
 rw [h.eq,List.drop_eq_getElem_cons hk,Zfd h1 h2];rfl
theorem SC.fin {ls:List ByteArray} {k:Nat} {la:List Zbw} (h:SC ls k la) (hk:ls.length≤k):Zby ls=some la:=by
 rw [h.eq,List.drop_eq_nil_of_le hk];simp [Zby]
theorem ZjJ (c:UInt8):∀ (l cur:List UInt8),(spl c cur l).length≤l.length+1
 |[],cur=>by simp [spl]
 |b :: l,cur=>by
  unfold spl
  split
  ·have:=ZjJ c l [];simp;omega
  ·have:=ZjJ c l (cur++[b]);simp;omega
theorem Zip (c:UInt8):∀ (l cur:List UInt8),∀ x∈spl c cur l,x.length≤cur.length+l.length
 |[],cur,x,hx=>by simp [spl] at hx;subst hx;simp
 |b :: l,cur,x,hx=>by
  unfold spl at hx
  split at hx
  ·rcases List.mem_cons.1 hx with rfl|hx
   ·simp
   ·have:=Zip c l [] x hx;simp at this ⊢;omega
  ·have:=Zip c l (cur++[b]) x hx;simp at this ⊢;omega
theorem ZmX (s:ByteArray):(Zbu s).length≤s.size+1:=by
 unfold Zbu
 rw [List.length_map]
 have h:=ZjJ 10 s.data.toList []
 have e:s.data.toList.length=s.size:=by rw [Array.length_toList];rfl
 omega
theorem ZlE {s x:ByteArray} (h:x∈Zbu s):x.size≤s.size:=by
 unfold Zbu at h
 obtain ⟨l,hl,rfl⟩:=List.mem_map.1 h
 have h:=Zip 10 s.data.toList [] l hl
 have e:s.data.toList.length=s.size:=by rw [Array.length_toList];rfl
 have e2:(⟨l.toArray⟩:ByteArray).size=l.length:=by show l.toArray.size=_;simp
 rw [e2];simp only [List.length_nil] at h;omega
def Zo2 (l:List (List UInt8)):List ByteArray:=l.map fun l=>⟨l.toArray⟩
structure SB (s:ByteArray) (i b:Nat) (la:List Zbw):Prop where
 go:i≤s.size→b≤i∧Zby (Zbu s)=(Zby (Zo2 (spl 10 ((s.data.toList.take i).drop b) (s.data.toList.drop i)))).map (la++·)
 fin:i=s.size+1→Zby (Zbu s)=some la
 len:la.length≤i
 ok:∀ x∈la,ZaW x.k x.a x.b=true
theorem SB.start (s:ByteArray):SB s 0 0 [] :=
 ⟨fun _=>⟨Nat.le_refl _,by rw [List.take_zero,List.drop_nil,List.drop_zero];exact Zhc _⟩,fun h=>by omega,Nat.le_refl _,fun x hx=>by cases hx⟩
theorem SB.more {s:ByteArray} {i b:Nat} {la:List Zbw} (h:SB s i b la) (hi:i<s.size) (hc:¬s[i]=10):SB s (i+1) b la:=by
 obtain ⟨h1,h2⟩:=h.go (by omega)
 refine ⟨fun _=>⟨by omega,?_⟩,fun h=>by omega,by have:=h.len;omega,h.ok⟩
 rw [h2,ZmC hi h1,Zf7 hi]
 show (Zby (Zo2 (if s[i]=10 then _ else _))).map _=_
 rw [if_neg hc]
theorem SB.line {s:ByteArray} {i b:Nat} {la:List Zbw} (h:SB s i b la) (hi:i≤s.size) (hc:∀ h:i<s.size,s[i]=10) :
  ∃ r,Zby (Zbu s)=(Zby (s.extract b i :: r)).map (la++·)∧∀ la':List Zbw,Zby (Zbu s)=(Zby r).map (la'++·)→la'.length≤i+1→(∀ x∈la',ZaW x.k x.a x.b=true)→SB s (i+1) (i+1) la':=by
 obtain ⟨h1,h2⟩:=h.go hi
 have ex:(⟨((s.data.toList.take i).drop b).toArray⟩:ByteArray)=s.extract b i:=by
  apply ZbZ
  rw [Zk6 hi]
 by_cases hlt:i<s.size
 ·refine ⟨Zo2 (spl 10 [] (s.data.toList.drop (i+1))),?_,fun la' he hl hk=>⟨fun hle=>⟨Nat.le_refl _,?_⟩,fun h=>by omega,hl,hk⟩⟩
  ·rw [h2,Zf7 hlt,hc hlt]
   show (Zby (Zo2 (if (10:UInt8)=10 then _ else _))).map _=_
   rw [if_pos rfl]
   rw [← ex];rfl
  ·rw [he,Ze8 (by omega)]
 ·have hie:i=s.size:=by omega
  subst hie
  refine ⟨[],?_,fun la' he hl hk=>⟨fun hle=>by omega,fun _=>?_,hl,hk⟩⟩
  ·have hd:s.data.toList.drop s.size=[]:=List.drop_eq_nil_of_le (by rw [Array.length_toList];exact Nat.le_refl _)
   rw [h2,hd]
   rw [← ex];rfl
  ·rw [he];simp [Zby]
theorem SB.skip {s:ByteArray} {i b:Nat} {la:List Zbw} (h:SB s i b la) (hi:i≤s.size) (hc:∀ h:i<s.size,s[i]=10) (h1:ZbI (s.extract b i)=true) (h2:ZaP (s.extract b i)=[]):SB s (i+1) (i+1) la:=by
 obtain ⟨r,e,f⟩:=h.line hi hc
 exact f la (by rw [e,ZfQ h1 h2]) (by have:=h.len;omega) h.ok
theorem SB.act {s:ByteArray} {i b:Nat} {la:List Zbw} (h:SB s i b la) (hi:i≤s.size) (hc:∀ h:i<s.size,s[i]=10) (h1:ZbI (s.extract b i)=true) (h2:ZbE (ZaP (s.extract b i))=true):SB s (i+1) (i+1) (la++[ZoS (s.extract b i)]):=by
 obtain ⟨r,e,f⟩:=h.line hi hc
 refine f _ (by rw [e,ZgE h1 h2];exact Zhi _ _ _) (by have:=h.len;simp;omega) ?_
 intro x hx
 rcases List.mem_append.1 hx with hx|hx
 ·exact h.ok x hx
 ·rw [List.mem_singleton.1 hx];exact ZnO h2
theorem SB.bad {s:ByteArray} {i b:Nat} {la:List Zbw} (h:SB s i b la) (hi:i≤s.size) (hc:∀ h:i<s.size,s[i]=10) (h1:¬(ZbI (s.extract b i)=true∧ZaP (s.extract b i)=[])) (h2:¬(ZbI (s.extract b i)=true∧ZbE (ZaP (s.extract b i))=true)):Zby (Zbu s)=none:=by
 obtain ⟨r,e,f⟩:=h.line hi hc
 rw [e,Zfd h1 h2];rfl
end Go.Proofs.YtlimlolciekimaaGreatDoor
