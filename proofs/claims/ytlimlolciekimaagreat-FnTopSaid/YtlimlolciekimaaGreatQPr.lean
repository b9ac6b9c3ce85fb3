/- Contracts of the program's and the reference's functions (Run1, RunPlain). -/
import Derived.Test.YtlimlolciekimaaGreatRows
import Derived.Test.YtlimlolciekimaaGreatQPo
import Derived.Test.YtlimlolciekimaaGreatQPq
import Derived.Test.YtlimlolciekimaaGreatQPn
namespace Go.Proofs.YtlimlolciekimaaGreat
set_option maxHeartbeats 1600000
set_option linter.unusedVariables false
def runAll (W:PWork) (xs:List Int):List PAct→PWork×List Int
 |[]=>(W,xs)
 |x :: l=>runAll (doActRes W x.k x.a x.b).1 (xs++[(doActRes W x.k x.a x.b).2]) l
def runRes (W:PWork) (l:List PAct):PWork×List Int:=if workOk W=true∧l.length≤40 then runAll W [] l else (W,[])
theorem perf_work {W:PWork} {k a b:Int} (h:workOk W=true):workOk (perf W k a b).1=true:=by
 have hm:=workOk_m h
 have hs:∀ s,workOk (shapeRes W s).1=true:=by
  intro s
  unfold shapeRes
  split
  ·rename_i q
   have h2:=workOk_D h (doRes_draft q.2.2)
   rw [workOk_iff] at h2 ⊢
   exact ⟨h2.1,h2.2.1,h2.2.2.1,h2.2.2.2.1,by show 0≤W.m - 1;omega,by show W.m - 1≤1000000;omega⟩
  ·exact h
 unfold perf
 split
 ·exact hs _
 ·split
  ·exact hs _
  ·split
   ·unfold unshapeRes
    split
    ·rename_i q;exact workOk_D h (undoRes_draft q.2)
    ·exact h
   ·split
    ·unfold buyRes
     split
     ·rename_i q;exact q.2.2
     ·exact h
    ·split
     ·unfold keepRes
      split
      ·rename_i q;exact workOk_P h (added_cat q.2)
      ·exact h
     ·split
      ·unfold makeRes
       split
       ·rename_i q
        obtain ⟨h1,h2,h3,h4,h5⟩:=q
        have h0:=inB_iff'.1 h1
        obtain ⟨q1,q2⟩:=useRes_pap h4
        exact workOk_pp h q1 (by rw [useRes_len];exact q2) (by omega) (by omega)
       ·exact h
      ·unfold forgetRes
       split
       ·rename_i q;exact workOk_P h (dropped_cat q.2)
       ·exact h
theorem doAct_work {W:PWork} {k a b:Int} (h:workOk W=true):workOk (doActRes W k a b).1=true:=by
 unfold doActRes
 split
 ·split
  ·exact h
  ·exact perf_work h
 ·exact h
def replay (W:PWork) (l:List PAct) (ns:List Int):Bool:=workOk W&&(decide (l.length≤40)&&decide ((runRes W l).2=ns))
end Go.Proofs.YtlimlolciekimaaGreat
