/- Contracts of the program's and the reference's functions (RoomP, DraftP, DraftQ, LexC). -/
import Derived.Lib.QuietBelow
import Derived.Test.YtlimlolciekimaaGreatRows
import Derived.Test.YtlimlolciekimaaGreatQPo
import Derived.Test.YtlimlolciekimaaGreatQPe
import Derived.Test.YtlimlolciekimaaGreatQPf
import Derived.Test.YtlimlolciekimaaGreatQPw
namespace Go.Proofs.YtlimlolciekimaaGreat
set_option maxHeartbeats 1600000
set_option linter.unusedVariables false
set_option maxRecDepth 10000
def stepGain (s:PStep):Int:=if s.K=1 then s.L - s.F+1 else if s.K=2 then -(s.L - s.F+1) else roomOf s.a.data.toList - roomOf s.b.data.toList
def gainSum:List PStep→Int
 |[]=>0
 |s :: l=>stepGain s+gainSum l
structure Part (D:PDraft) (k:Nat) (sk:List ByteArray):Prop where
 run:runSteps D.d1 D.f1 (D.st.take k) D.ss1=some sk
 ok:draftOk ⟨D.d1,D.f1,D.ss1,D.d2,D.f2,sk,D.st.take k⟩=true
theorem part_of {D:PDraft} (h:draftOk D=true) (k:Nat):∃ sk,Part D k sk:=by
 obtain ⟨⟨h1,h2⟩,h3,h4,h5⟩:=draftOk_iff.1 h
 have e:D.st=D.st.take k++D.st.drop k:=(List.take_append_drop k D.st).symm
 rw [e,runSteps_append] at h5
 cases hr:runSteps D.d1 D.f1 (D.st.take k) D.ss1 with
 |none=>rw [hr] at h5;cases h5
 |some sk=>exact ⟨sk,hr,draftOk_iff.2 ⟨⟨h1,by show (D.st.take k).length≤40;rw [List.length_take];omega⟩,h3,h4,hr⟩⟩
theorem part_zero {D:PDraft} {sk:List ByteArray} (h:Part D 0 sk):sk=D.ss1:=by
 have:=h.run
 rw [List.take_zero] at this
 simp only [runSteps] at this
 injection this with this
 exact this.symm
theorem part_all {D:PDraft} (h:draftOk D=true):Part D D.st.length D.ss2:=by
 obtain ⟨⟨h1,h2⟩,h3,h4,h5⟩:=draftOk_iff.1 h
 refine ⟨by rw [List.take_length];exact h5,?_⟩
 rw [List.take_length]
 exact h
theorem part_step {D:PDraft} {k:Nat} {sk sn:List ByteArray} (hk:k<D.st.length) (h:Part D k sk) (h':Part D (k+1) sn):stepRes true D.d1 D.f1 sk D.st[k].K D.st[k].F D.st[k].L D.st[k].T D.st[k].I D.st[k].b D.st[k].a=(sn,true):=by
 have hr:=h'.run
 rw [List.take_succ_eq_append_getElem hk,runSteps_append,h.run] at hr
 simp only [Option.bind_some] at hr
 rw [runSteps_one] at hr
 split at hr
 ·rename_i hq
  injection hr with hr
  exact Prod.ext hr hq
 ·cases hr
theorem part_undo {D:PDraft} {k:Nat} {sk sn:List ByteArray} (hD:draftOk D=true) (hk:k<D.st.length) (h:Part D k sk) (h':Part D (k+1) sn) :
  undoRes ⟨D.d1,D.f1,D.ss1,D.d2,D.f2,sn,D.st.take (k+1)⟩=(⟨D.d1,D.f1,D.ss1,D.d2,D.f2,sk,D.st.take k⟩,true):=by
 have hs:=part_step hk h h'
 obtain ⟨_,h3,h4,_⟩:=draftOk_iff.1 hD
 have ho:=h'.ok
 rw [List.take_succ_eq_append_getElem hk] at ho ⊢
 rw [undoRes_yes ho]
 rw [h3,h4] at hs
 have hb:=step_back1 hs
 rw [hb]
def GoodStep (s:PStep):Prop:=(0≤s.F∧s.F≤10∧0≤s.L∧s.L≤10)∧(s.K=1∨s.K=2∨s.K=3)∧-300≤stepGain s∧stepGain s≤300
end Go.Proofs.YtlimlolciekimaaGreat
namespace Go
def lexL (md:Region.Mode) (ops:Array Oper):Nat→List Oper→Bool
 |_,[]=>true
 |k,o :: l=>o.after.all (fun e=>!Region.binds md e||Nat.blt e.on k)&&l.all (fun o'=>o'.after.any (fun e=>Region.binds md e&&e.on==k)||o.apart ops o')&&lexL md ops (k+1) l
theorem lexFrom_of (md:Region.Mode) (ops:Array Oper):∀ (l:List Oper) (k:Nat) (listed:Array Bool),(∀ j,l[j]?=ops[k+j]?)→k+l.length=ops.size→listed.size=ops.size →
  (∀ i,i<ops.size→listed[i]?=some (decide (i<k)))→lexL md ops k l=true→Region.lexFrom md ops l.length k listed=true
 |[],k,listed,_,hk,hs,hp,_=>by
  simp only [List.length_nil,Region.lexFrom,Region.ready,List.isEmpty_iff,List.filter_eq_nil_iff,List.mem_range]
  intro i hi
  have h1:=hp i hi
  have h2:i<k:=by simp at hk;omega
  simp [Array.getD_eq_getD_getElem?,h1,h2]
 |o :: l,k,listed,hl,hk,hs,hp,h=>by
  simp only [lexL,Bool.and_eq_true] at h
  obtain ⟨⟨ha,hf⟩,hr⟩:=h
  have h0:ops[k]?=some o:=by simpa using (hl 0).symm
  have hkl:k<ops.size:=by simp at hk;omega
  simp only [List.length_cons,Region.lexFrom,Bool.and_eq_true]
  refine ⟨⟨?_,?_⟩,?_⟩
  ·rw [List.contains_iff_mem]
   simp only [Region.ready,List.mem_filter,List.mem_range]
   refine ⟨hkl,?_⟩
   have hpk:=hp k hkl
   simp only [Nat.lt_irrefl,decide_false] at hpk
   simp only [Array.getD_eq_getD_getElem?,hpk,h0,Option.map_some,Option.getD_some,Bool.not_false,Bool.true_and]
   rw [Array.all_eq_true'] at ha ⊢
   intro e he
   have h1:=ha e he
   rw [Bool.or_eq_true] at h1 ⊢
   refine h1.imp id fun h2=>?_
   have h3:e.on<k:=by simpa [Nat.blt_eq] using h2
   rw [hp e.on (by omega)]
   simp [h3]
  ·simp only [Region.free,h0,List.all_eq_true,List.mem_range]
   intro j hj
   by_cases hjk:j=k
   ·simp [hjk]
   by_cases hlt:j<k
   ·have:=hp j hj
    simp [Array.getD_eq_getD_getElem?,this,hlt]
   have h1:=hl (j - k)
   have h2:k+(j - k)=j:=by omega
   rw [h2] at h1
   obtain ⟨oj,hoj⟩:∃ oj,ops[j]?=some oj:=⟨ops[j],by simp [hj]⟩
   have h3:oj∈l:=by
    rw [hoj] at h1
    have:(o :: l)[j - k]?=l[j - k - 1]?:=by
     obtain ⟨m,hm⟩:∃ m,j - k=m+1:=⟨j - k - 1,by omega⟩
     rw [hm];simp
    rw [this] at h1
    exact List.mem_of_getElem? h1
   have h4:=List.all_eq_true.1 hf oj h3
   simp only [hoj]
   rw [Bool.or_eq_true,Bool.or_eq_true]
   exact Or.inr h4
  ·refine lexFrom_of md ops l (k+1) _ (fun j=>?_) (by simp at hk;omega) (by simp [hs]) (fun i hi=>?_) hr
   ·have:=hl (j+1)
    simpa [Nat.add_assoc,Nat.add_comm 1 j] using this
   ·rw [Array.getElem?_setIfInBounds]
    by_cases hik:k=i
    ·subst hik;simp [hs,hi]
    ·rw [if_neg hik,hp i hi]
     have:(i<k)=(i<k+1):=by apply propext;omega
     simp [this]
def lexC (l:List Oper):Bool:=Region.noSelect l.toArray&&lexL .any l.toArray 0 l
theorem lexB_of {l:List Oper} (h:lexC l=true):Region.lexB .any l.toArray=true:=by
 simp only [lexC,Bool.and_eq_true] at h
 simp only [Region.lexB,Bool.and_eq_true]
 refine ⟨h.1,?_⟩
 have:=lexFrom_of .any l.toArray l 0 (Array.replicate l.toArray.size false) (by simp) (by simp) (by simp) (fun i hi=>by simp at hi;simp [hi]) h.2
 simpa using this
end Go
