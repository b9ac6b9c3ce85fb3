/- Contracts of the program's and the reference's functions (PartP). -/
import Derived.Test.YtlimlolciekimaaGreatDoorRows
import Derived.Test.YtlimlolciekimaaGreatDoorQUr
namespace Go.Proofs.YtlimlolciekimaaGreatDoor
set_option maxHeartbeats 1600000
set_option linter.unusedVariables false
theorem runAll_acc (l:List PAct):∀ (W:PWork) (xs:List Int),runAll W xs l=((runAll W [] l).1,xs++(runAll W [] l).2):=by
 induction l with
 |nil=>intro W xs;simp [runAll]
 |cons x l ih =>
  intro W xs
  show runAll _ _ l=_
  rw [ih]
  have e:runAll W [] (x :: l)=runAll (doActRes W x.k x.a x.b).1 ([]++[(doActRes W x.k x.a x.b).2]) l:=rfl
  rw [e,ih _ ([]++_)]
  simp
theorem runAll_app (l m:List PAct):∀ (W:PWork) (xs:List Int),runAll W xs (l++m)=runAll (runAll W xs l).1 (runAll W xs l).2 m:=by
 induction l with
 |nil=>intro W xs;rfl
 |cons x l ih=>intro W xs;exact ih _ _
theorem run_parts {W:PWork} {l:List PAct} (k:Nat) (hw:workOk W=true) (hl:l.length≤40) :
  runRes W l=((runRes (runRes W (l.take k)).1 (l.drop k)).1,(runRes W (l.take k)).2++(runRes (runRes W (l.take k)).1 (l.drop k)).2):=by
 have h1:(l.take k).length≤40:=by rw [List.length_take];omega
 have h2:(l.drop k).length≤40:=by rw [List.length_drop];omega
 have hw2:=runRes_work (l:=l.take k) hw
 rw [runRes_yes hw2 h2]
 rw [runRes_yes hw hl,runRes_yes hw h1]
 have e:runAll W [] l=runAll W [] (l.take k++l.drop k):=by rw [List.take_append_drop]
 rw [e,runAll_app,runAll_acc (l.drop k) _ (runAll W [] (l.take k)).2]
end Go.Proofs.YtlimlolciekimaaGreatDoor
