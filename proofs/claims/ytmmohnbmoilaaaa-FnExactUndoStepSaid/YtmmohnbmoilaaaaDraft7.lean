/- Words for UndoStep of both packages. -/
import Derived.Test.YtmmohnbmoilaaaaDraft5
import Derived.Test.YtmmohnbmoilaaaaUDraftW
import Derived.Test.YtmmohnbmoilaaaaUndo1
import Derived.Test.YtmmohnbmoilaaaaDraft6
namespace Go.Proofs.Ytmmohnbmoilaaaa
open Go.ChangeShapes Go.WideShapes Go.ChangeAt Go.RowKit
set_option linter.unusedVariables false
set_option maxRecDepth 10000


theorem own_prefixk {w : World} {base n c m size : Nat} {e : TypeId} {a : Addr} {xs : List Value} (h : w.ownsRow base e size (.slice (some a) n c) n xs) (hm : m ≤ n) :
    w.ownsRow base e size (.slice (some a) m c) m (xs.take (m * size)) := by
  have hx := h.1
  have hmn : m * size ≤ n * size := Nat.mul_le_mul_right _ hm
  refine ⟨by rw [List.length_take]; omega, ?_⟩
  rcases h.2 with ⟨hv, hn⟩ | ⟨g, cap, cur, hv, hb, hg, hnc, hcm, hcs, ht⟩
  · injection hv with e1; cases e1
  · injection hv with e1 e2 e3
    subst e3
    refine .inr ⟨g, c, cur, by rw [e1], hb, hg, by omega, hcm, hcs, ?_⟩
    rw [← ht, List.take_take]
    congr 1
    omega
theorem own_capk {w : World} {base n c size : Nat} {e : TypeId} {A : Option Addr} {xs : List Value} (h : w.ownsRow base e size (.slice A n c) n xs) : n ≤ c ∧ c ≤ 9223372036854775807 := by
  rcases h.2 with ⟨hv, h0⟩ | ⟨g', cap, cur, hv, _, _, h1, h2, _⟩
  · injection hv with _ _ e3; omega
  · injection hv with _ _ e3; subst e3; unfold maxLen at h2; exact ⟨h1, by omega⟩
def undoRes (D : PDraft) : PDraft × Bool :=
  if draftOk D = true then match D.st.getLast? with | some s => (⟨D.d1, D.f1, D.ss1, D.d2, D.f2, (stepRes false D.d2 D.f2 D.ss2 s.K s.F s.L s.T s.I s.b s.a).1, D.st.dropLast⟩, true) | none => (D, false) else (D, false)
theorem undoRes_no {D : PDraft} (h : draftOk D = false) : undoRes D = (D, false) := by unfold undoRes; rw [h]; rfl
theorem undoRes_nil {D : PDraft} (h : D.st = []) : undoRes D = (D, false) := by unfold undoRes; rw [h]; split <;> rfl
theorem undoRes_yes {d1 f1 : Int} {ss1 : List ByteArray} {d2 f2 : Int} {ss2 : List ByteArray} {l : List PStep} {s : PStep} (h : draftOk ⟨d1, f1, ss1, d2, f2, ss2, l ++ [s]⟩ = true) : undoRes ⟨d1, f1, ss1, d2, f2, ss2, l ++ [s]⟩ = (⟨d1, f1, ss1, d2, f2, (stepRes false d2 f2 ss2 s.K s.F s.L s.T s.I s.b s.a).1, l⟩, true) := by
  unfold undoRes; rw [h]; simp
theorem undoRes_ok (D : PDraft) (h : OkDraft D 1048576) : OkDraft (undoRes D).1 1048576 := by
  unfold undoRes
  split
  · split
    · rename_i s hs
      have hm := List.mem_of_getLast? hs
      have hz := h.z3 s hm
      have h2 := stepRes_ok false D.d2 D.f2 D.ss2 s.K s.F s.L s.T s.I s.b s.a 1048576 h.l2 (by omega) h.z2 hz.1 hz.2
      exact ⟨h.l1, h2.1, by have := h.l3; simp; omega, h.z1, h2.2, fun x hx => h.z3 x (List.dropLast_subset _ hx)⟩
    · exact h
  · exact h
theorem UDraftB.weak {d1 f1 : Int} {ss1 : List ByteArray} {d2 f2 : Int} {ss2 : List ByteArray} {st : List PStep} {b : Bool} {w w' : World} {e : Ending} (h : UDraftB d1 f1 ss1 d2 f2 ss2 st b w e w') : UDraftWB d1 f1 ss1 d2 f2 ss2 st b w e w' := by
  obtain ⟨B1, e1, B2, e2, B3, e3, he, ho, hb⟩ := h
  exact ⟨B1, e1, B2, e2, B3, e3, he, OwnDW.of ho, hb⟩
theorem udw_cast {D : PDraft} {b : Bool} {q : PDraft × Bool} {w w' : World} {e : Ending} (h : q = (D, b)) (hu : UDraftWB D.d1 D.f1 D.ss1 D.d2 D.f2 D.ss2 D.st b w e w') : UDraftWB q.1.d1 q.1.f1 q.1.ss1 q.1.d2 q.1.f2 q.1.ss2 q.1.st q.2 w e w' := by subst h; exact hu
end Go.Proofs.Ytmmohnbmoilaaaa
