/- Contracts of the program's and the reference's functions (Txt1, Txt2, Txt3). -/
import Derived.Lib.AtoiAll
import Derived.Lib.AtoiErrMem
import Derived.Lib.Fields
import Derived.Lib.ItoaMem
import Derived.Lib.Join
import Derived.Test.YtlimlolciekimaaGreatDoorRows
import Derived.Test.YtlimlolciekimaaGreatDoorQUak
import Derived.Test.YtlimlolciekimaaGreatDoorQUa
namespace Go.Proofs.YtlimlolciekimaaGreatDoor
set_option maxHeartbeats 1600000
open Go.ChangeShapes Go.WideShapes Go.ChangeAt Go.RowKit
set_option linter.unusedVariables false
set_option linter.unusedSimpArgs false
set_option maxRecDepth 10000
def digL (l:List UInt8):Bool:=l.all fun c=>decide (48≤c.toNat)&&decide (c.toNat≤57)
def decF (n:Nat) (l:List UInt8):Nat:=l.foldl (fun n c=>10 * n+(c.toNat - 48)) n
theorem dec_len {n:Nat} (h:n≤1000000000):(Lib.decDigits n).length≤10:=by
 rw [Lib.decDigits_length]
 by_cases h9:n<10 ^ 9
 ·by_cases h0:n=0
  ·subst h0;rw [Lib.nDigits_small (by decide)];decide
  ·have h1:=Lib.decDigits_length n
   have:∀ k u:Nat,u<10 ^ (k+1)→Lib.nDigits u≤k+1:=by
    intro k
    induction k with
    |zero=>intro u hu;rw [Lib.nDigits_small (by simpa using hu)];decide
    |succ k ih =>
     intro u hu
     by_cases hs:u<10
     ·rw [Lib.nDigits_small hs];omega
     ·rw [Lib.nDigits_big hs]
      have:=ih (u / 10) (by rw [Nat.pow_succ] at hu;omega)
      omega
   have:=this 8 n h9
   omega
 ·have:n=1000000000:=by omega
  subst this
  rw [Lib.nDigits_unique 9 1000000000 (by decide) (by decide)]
  decide
def uintOk (s:ByteArray):Bool:=decide (s.size≤10)&&(digL s.data.toList&&(decide (decF 0 s.data.toList≤1000000000)&&decide (numT (decF 0 s.data.toList)=s)))
def uintV (s:ByteArray):Nat:=if uintOk s=true then decF 0 s.data.toList else 0
def cleanW (x:List UInt8):Prop:=x≠[]∧∀ b∈x,Lib.isSp b=false
def flds (s:ByteArray):List ByteArray:=(Lib.fields s.data.toList).map fun l=>⟨l.toArray⟩
def fldOk (s:ByteArray):Bool:=decide (s.size≤600)&&(s.data.toList.all (fun c=>decide (32≤c.toNat)&&decide (c.toNat≤126))&&decide ((flds s).length≤24))
def cleanP (p:List ByteArray):Prop:=∀ x∈p,cleanW x.data.toList
def joinB (p:List ByteArray):ByteArray:=⟨(Lib.join (p.map (·.data.toList)) [32]).toArray⟩
def actF (k a b:Nat):List ByteArray:=if wordN k=0 then [wordT k] else if wordN k=1 then [wordT k,numT a] else [wordT k,numT a,numT b]
def kindTo:Nat→ByteArray→Nat
 |0,_=>0
 |j+1,x=>if wordT (j+1)=x then j+1 else kindTo j x
def pK (p:List ByteArray):Nat:=kindTo 8 (p.getD 0 ⟨#[]⟩)
def pN (p:List ByteArray) (i:Nat):Nat:=uintV (p.getD i ⟨#[]⟩)
def parOk (p:List ByteArray):Bool:=actOk (pK p) (pN p 1) (pN p 2)&&decide (actF (pK p) (pN p 1) (pN p 2)=p)
def parRes (p:List ByteArray):(Nat×Nat×Nat)×Bool:=if parOk p=true then ((pK p,pN p 1,pN p 2),true) else ((0,0,0),false)
def SpI (s:ByteArray) (i b:Nat) (xs:List ByteArray):Prop :=
 b≤i∧i≤s.size∧xs.map (·.data.toList)++Lib.fieldsGo ((s.data.toList.take i).drop b) (s.data.toList.drop i)=Lib.fields s.data.toList∧xs.length≤i∧∀ x∈xs,x.size≤s.size
def pr (c:UInt8):Bool:=decide (32≤c.toNat)&&decide (c.toNat≤126)
structure Errs (w:World):Prop where
 syn : ∃ t p, w.var? Tryz.prog "strconv.ErrSyntax" = some #[.iface t p]
 ran : ∃ t p, w.var? Tryz.prog "strconv.ErrRange" = some #[.iface t p]
 asc : Lib.TabIs Tryz.prog w "strings.asciiSpace" .u8 Lib.asciiSpaceTab
 tab:Tab w
def l40 (s:ByteArray):Int:=if 1<s.size then (if s.data.toList.head?=some 45 then -(uintV (s.extract 1 s.size):Int) else uintV s) else uintV s
theorem joinB_size {p:List ByteArray} {m:Nat} (h:∀ x∈p,x.size≤m):(joinB p).size≤p.length * (m+1):=by
 cases p with
 |nil=>show 0≤_;omega
 |cons x r =>
  have hsz:(joinB (x :: r)).size=(joinB (x :: r)).data.toList.length:=by rw [Array.length_toList];rfl
  rw [hsz]
  show (Lib.join ((x :: r).map (·.data.toList)) [32]).length≤_
  rw [List.map_cons,Lib.join_length]
  have hl:∀ (q:List ByteArray),(∀ x∈q,x.size≤m)→Lib.lens (q.map (·.data.toList))≤q.length * m:=by
   intro q
   induction q with
   |nil=>intro _;simp [Lib.lens]
   |cons y q ih =>
    intro hq
    have h1:=hq y (by simp)
    have h2:=ih fun z hz=>hq z (by simp [hz])
    have h3:y.data.toList.length=y.size:=by rw [Array.length_toList];rfl
    unfold Lib.lens at h2 ⊢
    simp only [List.map_cons,List.sum_cons,List.length_cons]
    rw [Nat.add_mul,h3]
    omega
  have:=hl (x :: r) h
  simp only [List.map_cons,List.length_cons,List.length_map] at this ⊢
  rw [Nat.mul_add]
  simp
  omega
def numsS (p:List ByteArray):List Int:=(p.drop 1).map l40
def numS (p:List ByteArray) (i:Nat):Int:=(numsS p++[0,0]).getD i 0
def hitS (p:List ByteArray) (k:Nat):Bool:=actOk k (numS p 0) (numS p 1)&&decide (actT k (numS p 0).toNat (numS p 1).toNat=joinB p)
end Go.Proofs.YtlimlolciekimaaGreatDoor
