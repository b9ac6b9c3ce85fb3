/- Cards in memory; the contracts of CardOk of both packages. -/
import Derived.Test.YtlimlolciekimaaDoorStr2
import Derived.Test.YtlimlolciekimaaDoorMem
namespace Go.Proofs.YtlimlolciekimaaDoor
open Go.ChangeShapes Go.WideShapes Go.ChangeAt Go.RowKit

structure Strs (w : World) (B : Nat) (A : Option Addr) (n : Nat) (ss : List ByteArray) : Prop where
  rd : Reads w B 1 A n (ss.map Value.string)
  nb : n ≤ 16777216
  sb : ∀ s ∈ ss, s.size ≤ 16777216

section
variable {w w' : World} {B B' n : Nat} {A : Option Addr} {ss : List ByteArray}
theorem Strs.len (h : Strs w B A n ss) : ss.length = n := by have := h.rd.1; simpa using this
theorem Strs.at_ {k : Nat} (h : Strs w B A n ss) (hk : k < n) : ∃ (hk' : k < ss.length) (ad : Addr), A = some ad ∧ ad.block < B ∧ w.cell? (ad.add k) = some (.string ss[k]) ∧ ss[k].size ≤ 16777216 := by
  obtain ⟨ad, u, rfl, hb, hx, hc⟩ := h.rd.at_ hk
  have hl := h.len
  have hk' : k < ss.length := by omega
  refine ⟨hk', ad, rfl, hb, ?_, h.sb _ (List.getElem_mem hk')⟩
  rw [hc]
  rw [List.getElem?_map, List.getElem?_eq_getElem hk'] at hx
  simpa using hx.symm
theorem Strs.keep (h : Strs w B A n ss) (hk : ∀ p : Addr, p.block < B → w'.cell? p = w.cell? p) : Strs w' B A n ss := ⟨h.rd.keep hk, h.nb, h.sb⟩
theorem Strs.more (h : Strs w B A n ss) (hB : B ≤ B') : Strs w B' A n ss := ⟨h.rd.more hB, h.nb, h.sb⟩
theorem Strs.below (h : Strs w B A n ss) (hb : Below B w w') : Strs w' B A n ss := ⟨h.rd.below hb, h.nb, h.sb⟩
theorem Strs.drewN (h : Strs w B A n ss) (k : Nat) : Strs (w.drewN k) B A n ss := ⟨h.rd.drewN k, h.nb, h.sb⟩
theorem Strs.alloc (h : Strs w B A n ss) (hB : B ≤ w.heap.size) (o : Obj) : Strs (w.alloc o) B A n ss := ⟨h.rd.alloc hB o, h.nb, h.sb⟩
end

def stripOf (d f : Int) (s : ByteArray) : Bool := (downOf s.data.toList == d) && (forwardOf s.data.toList == f)
def cardOk (d f : Int) (ss : List ByteArray) : Bool := (isStepsB d && isStepsB f) && (inB ss.length 1 10 && ss.all (stripOf d f))

theorem cardOk_no {d f : Int} {ss : List ByteArray} {k : Nat} (hk : k < ss.length) (h : stripOf d f ss[k] = false) : cardOk d f ss = false := by
  have : ss.all (stripOf d f) = false := by
    rw [List.all_eq_false]; exact ⟨ss[k], List.getElem_mem hk, by simp [h]⟩
  unfold cardOk; rw [this]; simp


end Go.Proofs.YtlimlolciekimaaDoor
