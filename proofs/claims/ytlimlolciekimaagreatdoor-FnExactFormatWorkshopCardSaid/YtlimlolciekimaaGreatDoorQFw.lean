/- Contracts of the program's and the reference's functions (ScenP). -/
import Derived.Test.YtlimlolciekimaaGreatDoorRows
import Derived.Test.YtlimlolciekimaaGreatDoorQFr
import Derived.Test.YtlimlolciekimaaGreatDoorQFu
namespace Go.Proofs.YtlimlolciekimaaGreatDoor
set_option linter.unusedVariables false
theorem step_card {on : Bool} {d f : Int} {ss : List ByteArray} {K F L T I : Int} {b a : ByteArray} (h : cardOk d f ss = true) : cardOk d f (stepRes on d f ss K F L T I b a).1 = true := by
  have hbox : ∀ c : UInt8, cardOk d f (boxRes c d f ss F L T).1 = true := by
    intro c
    unfold boxRes
    split
    · rename_i q; exact cardOk_flips h q.2
    · exact h
  have hput : ∀ (s : ByteArray), cardOk d f (putAt d f ss I s).1 = true := by
    intro s
    unfold putAt
    split
    · rename_i q
      rw [Bool.and_eq_true] at q
      exact q.2
    · exact h
  have hex : ∀ (x y : ByteArray), cardOk d f (exchRes d f ss I x y).1 = true := by
    intro x y
    unfold exchRes
    split
    · exact hput _
    · exact h
  unfold stepRes
  split
  · exact h
  · split
    · exact hbox _
    · split
      · exact hbox _
      · split
        · exact hex _ _
        · exact hex _ _
theorem runSteps_card {d f : Int} : ∀ (l : List PStep) (ss sn : List ByteArray), cardOk d f ss = true → runSteps d f l ss = some sn → cardOk d f sn = true := by
  intro l
  induction l with
  | nil => intro ss sn h e; simp only [runSteps] at e; injection e with e; rw [← e]; exact h
  | cons s l ih =>
    intro ss sn h e
    simp only [runSteps] at e
    split at e
    · exact ih _ _ (step_card h) e
    · cases e
theorem draft_card {D : PDraft} (h : draftOk D = true) : cardOk D.d2 D.f2 D.ss2 = true := by
  obtain ⟨⟨h1, _⟩, h2, h3, h4⟩ := draftOk_iff.1 h
  rw [← h2, ← h3]
  exact runSteps_card _ _ _ h1 h4
def drawNames : List ByteArray := [⟨#[97, 114, 99, 104]⟩, ⟨#[98, 97, 114, 110]⟩, ⟨#[98, 111, 97, 116]⟩, ⟨#[98, 114, 105, 100, 103, 101]⟩, ⟨#[99, 97, 115, 116, 108, 101]⟩, ⟨#[99, 97, 116]⟩, ⟨#[99, 104, 97, 105, 114]⟩, ⟨#[100, 114, 97, 103, 111, 110]⟩, ⟨#[102, 111, 120]⟩, ⟨#[104, 111, 117, 115, 101]⟩]
structure DrewW (W : PWork) (np ni : Nat) : Prop where
  ok : workOk W = true
  z : OkWork W.D W.P W.pp 1048576
  st : W.D.st.length ≤ 6
  pl : W.pp.length ≤ np
  pk : ∀ p ∈ W.pp, p.k ≤ 2
  il : W.P.length ≤ ni
  nm : ∀ x ∈ W.P, x.nm ∈ drawNames
  mb : W.m ≤ 5000
end Go.Proofs.YtlimlolciekimaaGreatDoor
