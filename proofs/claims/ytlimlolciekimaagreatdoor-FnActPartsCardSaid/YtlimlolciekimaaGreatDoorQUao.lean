/- Contracts of the program's and the reference's functions (TxtC). -/
import Derived.Lib.Split
import Derived.Test.YtlimlolciekimaaGreatDoorRows
import Derived.Test.YtlimlolciekimaaGreatDoorQUal
namespace Go.Proofs.YtlimlolciekimaaGreatDoor
set_option maxHeartbeats 1600000
open Go.ChangeShapes Go.WideShapes Go.ChangeAt Go.RowKit
set_option linter.unusedVariables false
set_option linter.unusedSimpArgs false
set_option maxRecDepth 10000
def tailT (pre:ByteArray) (l:List ByteArray):ByteArray:=⟨(pre.data.toList++Lib.joinTail [32] (l.map (·.data.toList))).toArray⟩
theorem tailT_nil (pre:ByteArray):tailT pre []=pre:=by apply ba_ext;simp [tailT,Lib.joinTail]
theorem tailT_snoc (pre:ByteArray) (l:List ByteArray) (x:ByteArray):tailT pre (l++[x])=tailT pre l++(⟨#[32]⟩++x):=by
 apply ba_ext;simp [tailT,Lib.joinTail,ByteArray.data_append]
theorem tailT_take (pre:ByteArray) (l:List ByteArray) {k:Nat} (hk:k<l.length):tailT pre (l.take (k+1))=tailT pre (l.take k)++(⟨#[32]⟩++l[k]):=by
 rw [List.take_succ_eq_append_getElem hk,tailT_snoc]
theorem one_size (x:UInt8):(⟨#[x]⟩:ByteArray).size=1:=rfl
theorem tailT_size (pre:ByteArray) (m:Nat):∀ l:List ByteArray,(∀ x∈l,x.size≤m)→(tailT pre l).size≤pre.size+l.length * (m+1):=by
 intro l
 generalize hn:l.length=n
 induction n generalizing l with
 |zero =>
  intro _
  rw [List.length_eq_zero_iff.1 hn,tailT_nil];omega
 |succ n ih =>
  intro h
  have hne:l≠[]:=by rintro rfl;simp at hn
  have hl:=List.dropLast_concat_getLast hne
  rw [← hl,tailT_snoc,ByteArray.size_append,ByteArray.size_append,one_size]
  have h1:=ih l.dropLast (by rw [List.length_dropLast];omega) (fun x hx=>h x (List.dropLast_subset _ hx))
  have h2:=h (l.getLast hne) (List.getLast_mem hne)
  rw [Nat.add_mul];omega
def headT (d f:Nat):ByteArray:=numT d++⟨#[120]⟩++numT f
def cardT (d f:Nat) (ss:List ByteArray):ByteArray:=headT d f++⟨#[58,32]⟩++joinB ss
def spl (c:UInt8):List UInt8→List UInt8→List (List UInt8)
 |cur,[]=>[cur]
 |cur,b :: l=>if b=c then cur :: spl c [] l else spl c (cur++[b]) l
end Go.Proofs.YtlimlolciekimaaGreatDoor
