/- Contracts of the program's and the reference's functions (LexC). -/
import Derived.Lib.QuietBelow
import Derived.Test.YtlimlolciekimaaGreatDoorRows
namespace Go
set_option maxHeartbeats 1600000
def lexL (md:Region.Mode) (ops:Array Oper):Nat→List Oper→Bool
 |_,[]=>true
 |k,o :: l=>o.after.all (fun e=>!Region.binds md e||Nat.blt e.on k)&&l.all (fun o'=>o'.after.any (fun e=>Region.binds md e&&e.on==k)||o.apart ops o')&&lexL md ops (k+1) l
theorem lexFrom_of (md:Region.Mode) (ops:Array Oper):∀ (l:List Oper) (k:Nat) (listed:Array Bool),(∀ j,l[j]?=ops[k+j]?)→k+l.length=ops.size→listed.size=ops.size →
  (∀ i,i<ops.size→listed[i]?=some (decide (i<k)))→lexL md ops k l=true→Region.lexFrom md ops l.length k listed=true
 |[],k,listed,_,hk,hs,hp,_=>by
  simp only [List.length_nil,Region.lexFrom,Region.ready,List.isEmpty_iff,List.filter_eq_nil_iff,List.mem_range]
  intro i hi
  have h1:=hp i hi
  have h2:i<k:=by simp at hk;omega
  simp [Array.getD_eq_getD_getElem?,h1,h2]
 |o :: l,k,listed,hl,hk,hs,hp,h=>by
  simp only [lexL,Bool.and_eq_true] at h
  obtain ⟨⟨ha,hf⟩,hr⟩:=h
  have h0:ops[k]?=some o:=by simpa using (hl 0).symm
  have hkl:k<ops.size:=by simp at hk;omega
  simp only [List.length_cons,Region.lexFrom,Bool.and_eq_true]
  refine ⟨⟨?_,?_⟩,?_⟩
  ·rw [List.contains_iff_mem]
   simp only [Region.ready,List.mem_filter,List.mem_range]
   refine ⟨hkl,?_⟩
   have hpk:=hp k hkl
   simp only [Nat.lt_irrefl,decide_false] at hpk
   simp only [Array.getD_eq_getD_getElem?,hpk,h0,Option.map_some,Option.getD_some,Bool.not_false,Bool.true_and]
   rw [Array.all_eq_true'] at ha ⊢
   intro e he
   have h1:=ha e he
   rw [Bool.or_eq_true] at h1 ⊢
   refine h1.imp id fun h2=>?_
   have h3:e.on<k:=by simpa [Nat.blt_eq] using h2
   rw [hp e.on (by omega)]
   simp [h3]
  ·simp only [Region.free,h0,List.all_eq_true,List.mem_range]
   intro j hj
   by_cases hjk:j=k
   ·simp [hjk]
   by_cases hlt:j<k
   ·have:=hp j hj
    simp [Array.getD_eq_getD_getElem?,this,hlt]
   have h1:=hl (j - k)
   have h2:k+(j - k)=j:=by omega
   rw [h2] at h1
   obtain ⟨oj,hoj⟩:∃ oj,ops[j]?=some oj:=⟨ops[j],by simp [hj]⟩
   have h3:oj∈l:=by
    rw [hoj] at h1
    have:(o :: l)[j - k]?=l[j - k - 1]?:=by
     obtain ⟨m,hm⟩:∃ m,j - k=m+1:=⟨j - k - 1,by omega⟩
     rw [hm];simp
    rw [this] at h1
    exact List.mem_of_getElem? h1
   have h4:=List.all_eq_true.1 hf oj h3
   simp only [hoj]
   rw [Bool.or_eq_true,Bool.or_eq_true]
   exact Or.inr h4
  ·refine lexFrom_of md ops l (k+1) _ (fun j=>?_) (by simp at hk;omega) (by simp [hs]) (fun i hi=>?_) hr
   ·have:=hl (j+1)
    simpa [Nat.add_assoc,Nat.add_comm 1 j] using this
   ·rw [Array.getElem?_setIfInBounds]
    by_cases hik:k=i
    ·subst hik;simp [hs,hi]
    ·rw [if_neg hik,hp i hi]
     have:(i<k)=(i<k+1):=by apply propext;omega
     simp [this]
def lexC (l:List Oper):Bool:=Region.noSelect l.toArray&&lexL .any l.toArray 0 l
theorem lexB_of {l:List Oper} (h:lexC l=true):Region.lexB .any l.toArray=true:=by
 simp only [lexC,Bool.and_eq_true] at h
 simp only [Region.lexB,Bool.and_eq_true]
 refine ⟨h.1,?_⟩
 have:=lexFrom_of .any l.toArray l 0 (Array.replicate l.toArray.size false) (by simp) (by simp) (by simp) (fun i hi=>by simp at hi;simp [hi]) h.2
 simpa using this
end Go
