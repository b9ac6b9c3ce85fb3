/- Contracts of the program's and the reference's functions (Txt4). -/
import Derived.Test.YtlimlolciekimaaGreatDoorRows
import Derived.Test.YtlimlolciekimaaGreatDoorQHal
namespace Go.Proofs.YtlimlolciekimaaGreatDoor
set_option maxHeartbeats 1600000
open Go.ChangeShapes Go.WideShapes Go.ChangeAt Go.RowKit
set_option linter.unusedVariables false
set_option linter.unusedSimpArgs false
set_option maxRecDepth 10000
def lineP (s:ByteArray):(Nat×Nat×Nat)×Bool:=if fldOk s=true then parRes (flds s) else ((0,0,0),false)
abbrev actV (r:(Nat×Nat×Nat)×Bool):Value:=.tuple #[.agg #[.int .i64 (r.1.1:Int),.int .i64 (r.1.2.1:Int),.int .i64 (r.1.2.2:Int)],.bool r.2]
theorem lineP_no {s:ByteArray} (h:fldOk s=false):lineP s=((0,0,0),false):=by unfold lineP;rw [h];rfl
theorem lineP_bad {s:ByteArray} (h:parOk (flds s)=false):lineP s=((0,0,0),false):=by unfold lineP;rw [parRes_no h];split <;> rfl
theorem lineP_yes {s:ByteArray} (h0:fldOk s=true) (h:parOk (flds s)=true):lineP s=((pK (flds s),pN (flds s) 1,pN (flds s) 2),true):=by unfold lineP;rw [if_pos h0,parRes_yes h]
theorem blk3z {w:World} {g:Nat} {t:TypeId} {a b c:Value} (h:w.heap[g]?=some (.cells #[a,b,c] t (0,0))) :
  w.frozen? ⟨g,0,none⟩=false∧w.frozen? ⟨g,1,none⟩=false∧w.frozen? ⟨g,2,none⟩=false :=
 ⟨(blk_cells h 0).2,(blk_cells h 1).2,(blk_cells h 2).2⟩
theorem bel3 {B g:Nat} {a w:World} (h:Below B a w) (hg:B≤g) (x y z:Value):Below B a (((w.setCell ⟨g,0,none⟩ x).setCell ⟨g,1,none⟩ y).setCell ⟨g,2,none⟩ z) :=
 ((h.setCell (p:=⟨g,0,none⟩) hg x).setCell (p:=⟨g,1,none⟩) hg y).setCell (p:=⟨g,2,none⟩) hg z
theorem add_zero (a:Addr):a.add 0=a:=by unfold Addr.add;rw [if_pos rfl]
end Go.Proofs.YtlimlolciekimaaGreatDoor
