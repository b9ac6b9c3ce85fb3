/- The contracts of DoStep of both packages. -/
import Derived.Test.YtmmohnbmoilaaaaDraft5
import Derived.Deep.RegionLaw
namespace Go.Proofs.Ytmmohnbmoilaaaa
open Go.ChangeShapes Go.WideShapes Go.ChangeAt Go.RowKit
set_option linter.unusedVariables false
set_option maxRecDepth 10000


theorem reads_new (W : World) (cs : Array Value) (t : TypeId) (n size : Nat) (h : cs.size = n * size) : Reads (W.alloc (.cells cs t)) (W.heap.size + 1) size (some ⟨W.heap.size, 0, none⟩) n cs.toList :=
  ⟨by simpa using h, fun _ => ⟨_, rfl, by simp, fun j u hj => World.news_of_block (blk_new W (.cells cs t)) j u hj⟩⟩
theorem stepCells_one1 (s : PStep) : ∀ u ∈ stepCells s, u.oneCell' = true := by
  intro u h
  simp [stepCells] at h
  rcases h with rfl | rfl | rfl | rfl | rfl | rfl | rfl <;> rfl
def doRes (D : PDraft) (s : PStep) : PDraft × Bool :=
  if (draftOk D = true ∧ D.st.length ≠ 40) ∧ (stepRes true D.d2 D.f2 D.ss2 s.K s.F s.L s.T s.I s.b s.a).2 = true then (⟨D.d1, D.f1, D.ss1, D.d2, D.f2, (stepRes true D.d2 D.f2 D.ss2 s.K s.F s.L s.T s.I s.b s.a).1, D.st ++ [s]⟩, true) else (D, false)
theorem draftOk_st {D : PDraft} (h : draftOk D = true) : D.st.length ≤ 40 := by
  rcases Nat.lt_or_ge 40 D.st.length with h1 | h1
  · rw [draftOk_no2 (by omega)] at h; cases h
  · exact h1
theorem doRes_ok (D : PDraft) (s : PStep) (h : OkDraft D 1048576) (hs : s.b.size ≤ 16777216 ∧ s.a.size ≤ 16777216) : OkDraft (doRes D s).1 1048576 := by
  unfold doRes
  split
  · rename_i hc
    have h40 := draftOk_st hc.1.1
    have h2 := stepRes_ok true D.d2 D.f2 D.ss2 s.K s.F s.L s.T s.I s.b s.a 1048576 h.l2 (by omega) h.z2 hs.1 hs.2
    refine ⟨h.l1, h2.1, by simp; omega, h.z1, h2.2, fun x hx => ?_⟩
    rcases List.mem_append.1 hx with hx | hx
    · exact h.z3 x hx
    · rw [List.mem_singleton.1 hx]; exact hs
  · exact h
end Go.Proofs.Ytmmohnbmoilaaaa
