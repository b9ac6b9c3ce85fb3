/- Contracts of the program's and the reference's functions (Mix1). -/
import Derived.Test.YtlimlolciekimaaGreatRows
import Derived.Test.YtlimlolciekimaaGreatQPo
namespace Go.Proofs.YtlimlolciekimaaGreat
set_option maxHeartbeats 1600000
open Go.ChangeShapes Go.WideShapes Go.ChangeAt Go.RowKit
set_option linter.unusedVariables false
set_option maxRecDepth 10000
def mx (a b:List UInt8) (k:Nat):Nat:=max (cnt 102 (a.take k)) (cnt 102 (b.take k))
def mixAt (a b:List UInt8) (k:Nat):UInt8:=if mx a b k<mx a b (k+1) then 102 else 100
def mixL (a b:List UInt8) (n:Nat):List UInt8:=(List.range n).map (mixAt a b)
def mixP (s t:ByteArray) (n:Nat):ByteArray:=⟨(mixL s.data.toList t.data.toList n).toArray⟩
def mixB (s t:ByteArray):ByteArray:=if sameFrame s.data.toList t.data.toList=true then mixP s t s.size else ⟨#[]⟩
theorem i_forwards (s:ByteArray) (v:Int) (k:Nat) (w:World) (hv:v=(k:Int)) (hk:k≤s.size) (hs:s.size≤16777216) :
  Calls Tryz.prog 157 #[.string s,.int .i64 v] w fun e w'=>e=.returned (.int .i64 (cnt 102 (s.data.toList.take k)))∧w=w':=by
 subst hv
 have he:(s.extract 0 k).data.toList=s.data.toList.take k:=by
  simp [ByteArray.data_extract,Array.toList_extract,List.extract_eq_take_drop]
 go_enter Tryz.func157,Tryz.ntmps157
 go_wp2_with (go_at_call 77;refine (strCount _ _ _).mono ?_;rintro e w' ⟨rfl,rfl⟩)
 go_ret
 exact ⟨rfl,rfl⟩
end Go.Proofs.YtlimlolciekimaaGreat
