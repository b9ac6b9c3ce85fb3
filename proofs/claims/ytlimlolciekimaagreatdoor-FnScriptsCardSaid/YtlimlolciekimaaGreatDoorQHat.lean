/- Contracts of the program's and the reference's functions (TxtD, Ctx4). -/
import Derived.Test.YtlimlolciekimaaGreatDoorRows
import Derived.Test.YtlimlolciekimaaGreatDoorQHao
import Derived.Test.YtlimlolciekimaaGreatDoorQHa
import Derived.Test.YtlimlolciekimaaGreatDoorQHal
import Derived.Test.YtlimlolciekimaaGreatDoorQHar
import Derived.Test.YtlimlolciekimaaGreatDoorQHb
namespace Go.Proofs.YtlimlolciekimaaGreatDoor
set_option maxHeartbeats 1600000
open Go.ChangeShapes Go.WideShapes Go.ChangeAt Go.RowKit
set_option linter.unusedVariables false
set_option linter.unusedSimpArgs false
set_option maxRecDepth 10000
theorem two_letters:∀ {l:List UInt8},cnt 100 l+cnt 102 l=l.length→∀ x∈l,x=100∨x=102
 |[],_,x,hx=>by cases hx
 |c :: l,h,x,hx=>by
  have h2:=cnt_two l
  unfold cnt at h h2
  rw [List.count_cons,List.count_cons,List.length_cons] at h
  by_cases hc:c=100
  ·subst hc
   rcases List.mem_cons.1 hx with rfl|hx
   ·exact .inl rfl
   ·exact two_letters (l:=l) (by unfold cnt;simp at h;omega) x hx
  ·by_cases hc2:c=102
   ·subst hc2
    rcases List.mem_cons.1 hx with rfl|hx
    ·exact .inr rfl
    ·exact two_letters (l:=l) (by unfold cnt;simp at h;omega) x hx
   ·simp [hc,hc2] at h;omega
theorem strip_two {l:List UInt8} (h:isStrip l=true):∀ x∈l,x=100∨x=102:=by
 unfold isStrip at h
 simp only [Bool.and_eq_true,beq_iff_eq] at h
 exact two_letters h.1
theorem card_strips {d f:Int} {ss:List ByteArray} (h:cardOk d f ss=true):ss≠[]∧∀ s∈ss,isStrip s.data.toList=true:=by
 unfold cardOk at h
 simp only [Bool.and_eq_true,List.all_eq_true] at h
 obtain ⟨⟨h1,h2⟩,h3,h4⟩:=h
 refine ⟨by rintro rfl;revert h3;decide,fun s hs=>?_⟩
 have h5:=h4 s hs
 cases hi:isStrip s.data.toList with
 |true=>rfl
 |false =>
  exfalso
  unfold stripOf downOf at h5
  rw [hi] at h5
  simp at h5
  have h6:=h5.1
  subst h6
  revert h1;decide
def LenV (w:World):Prop:=∃ m,w.cell? ⟨2,0,none⟩=some (.int .i64 m)
theorem LenV.below {w w':World} (h:LenV w) (hb:Below w.heap.size w w'):LenV w':=by
 obtain ⟨m,hm⟩:=h
 exact ⟨m,(hb.cell (p:=⟨2,0,none⟩) (block_lt_of_cell hm)).trans hm⟩
end Go.Proofs.YtlimlolciekimaaGreatDoor
