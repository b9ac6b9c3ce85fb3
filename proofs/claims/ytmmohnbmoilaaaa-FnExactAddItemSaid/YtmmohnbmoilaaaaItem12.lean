/- What AddItem gives: the place of a name, the items with one more; a row of one's own with one more item. -/
import Derived.Test.YtmmohnbmoilaaaaIns2
import Derived.Test.YtmmohnbmoilaaaaItem10
namespace Go.Proofs.Ytmmohnbmoilaaaa
open Go.ChangeShapes Go.WideShapes Go.ChangeAt Go.RowKit
set_option linter.unusedVariables false
set_option maxRecDepth 10000

def nmLt (a b : ByteArray) : Bool := Op.bytesLess a.toList b.toList
def posOf : List PItem → ByteArray → Nat
  | [], _ => 0
  | x :: l, nm => if nmLt x.nm nm = true then posOf l nm + 1 else 0
def allLt (P : List PItem) (nm : ByteArray) (j : Nat) : Prop := ∀ i, i < j → ∀ x, P[i]? = some x → nmLt x.nm nm = true
theorem allLt_zero (P : List PItem) (nm : ByteArray) : allLt P nm 0 := fun i hi => absurd hi (by omega)
theorem allLt_succ {P : List PItem} {nm : ByteArray} {j : Nat} {x : PItem} (h : allLt P nm j) (hx : P[j]? = some x) (hn : nmLt x.nm nm = true) : allLt P nm (j + 1) := by
  intro i hi y hy
  by_cases hij : i = j
  · subst hij; rw [hx] at hy; injection hy with hy; subst hy; exact hn
  · exact h i (by omega) y hy
theorem posOf_at : ∀ (P : List PItem) (nm : ByteArray) (j : Nat), allLt P nm j → j ≤ P.length → (∀ x, P[j]? = some x → nmLt x.nm nm = false) → posOf P nm = j
  | [], nm, j, _, hj, _ => by simp at hj; subst hj; rfl
  | x :: l, nm, 0, _, _, hx => by
    have h := hx x rfl
    unfold posOf
    rw [h]; rfl
  | x :: l, nm, j + 1, ha, hj, hx => by
    have h := ha 0 (by omega) x rfl
    unfold posOf
    rw [if_pos h, posOf_at l nm j (fun i hi y hy => ha (i + 1) (by omega) y (by simpa using hy)) (by simpa using hj) (fun y hy => hx y (by simpa using hy))]
theorem posOf_le : ∀ (P : List PItem) (nm : ByteArray), posOf P nm ≤ P.length
  | [], _ => Nat.zero_le _
  | x :: l, nm => by
    have := posOf_le l nm
    unfold posOf
    split
    · simp only [List.length_cons]; omega
    · omega
def insP (P : List PItem) (x : PItem) (j : Nat) : List PItem := P.take j ++ x :: P.drop j
theorem insP_len (P : List PItem) (x : PItem) (j : Nat) (h : j ≤ P.length) : (insP P x j).length = P.length + 1 := by
  unfold insP; rw [List.length_append, List.length_cons, List.length_take, List.length_drop]; omega
theorem insP_mem {P : List PItem} {x y : PItem} {j : Nat} (h : y ∈ insP P x j) : y = x ∨ y ∈ P := by
  rcases List.mem_append.1 h with h | h
  · exact .inr (List.mem_of_mem_take h)
  · rcases List.mem_cons.1 h with h | h
    · exact .inl h
    · exact .inr (List.mem_of_mem_drop h)
def added (P : List PItem) (x : PItem) : List PItem × Bool :=
  if catOk P = true then if catOk (insP P x (posOf P x.nm)) = true then (insP P x (posOf P x.nm), true) else (P, false) else (P, false)
theorem added_no1 {P : List PItem} {x : PItem} (h : catOk P = false) : added P x = (P, false) := by unfold added; rw [h]; rfl
theorem added_no2 {P : List PItem} {x : PItem} {j : Nat} (hj : posOf P x.nm = j) (h : catOk (insP P x j) = false) : added P x = (P, false) := by unfold added; rw [hj, h]; split <;> rfl
theorem added_yes {P : List PItem} {x : PItem} {j : Nat} (hj : posOf P x.nm = j) (hc : catOk P = true) (h : catOk (insP P x j) = true) : added P x = (insP P x j, true) := by unfold added; rw [hj, h, hc]; rfl
theorem catOk_len {P : List PItem} (h : catOk P = true) : P.length ≤ 20 := by
  unfold catOk at h
  simp only [Bool.and_eq_true, decide_eq_true_eq] at h
  exact h.2
theorem added_ok (P : List PItem) (x : PItem) (m : Nat) (h : OkItems P m) (hx : x.ss.length ≤ m ∧ (∀ s ∈ x.ss, s.size ≤ 16777216) ∧ x.nm.size ≤ 16777216) (hm : 20 ≤ m) : OkItems (added P x).1 m := by
  unfold added
  split
  · split
    · rename_i hc hq
      refine ⟨Nat.le_trans (catOk_len hq) hm, fun y hy => ?_⟩
      rcases insP_mem hy with rfl | hy
      · exact hx
      · exact h.2 y hy
    · exact h
  · exact h
theorem insP_ok {P : List PItem} {x : PItem} {j : Nat} (h : OkItems P 16777216) (hn : P.length ≤ 16777215) (hx : x.ss.length ≤ 16777216 ∧ (∀ s ∈ x.ss, s.size ≤ 16777216) ∧ x.nm.size ≤ 16777216) (hj : j ≤ P.length) : OkItems (insP P x j) 16777216 := by
  refine ⟨by rw [insP_len _ _ _ hj]; omega, fun y hy => ?_⟩
  rcases insP_mem hy with rfl | hy
  · exact hx
  · exact h.2 y hy
theorem plI_ins (L : List RItem) (r : RItem) (j : Nat) : plI (L.take j ++ r :: L.drop j) = insP (plI L) r.x j := by simp [plI, insP, List.map_take, List.map_drop]
/-- an item with a card of its own is put into a row of one's own -/
theorem OwnItems.ins {w w' : World} {lo mid n c N c' j : Nat} {A A' : Option Addr} {L : List RItem} {r : RItem} (ho : OwnItems w lo mid A n c L) (hr : OwnS w mid w.heap.size r.A r.c r.x.ss) (hle : lo ≤ mid) (hm : mid ≤ w.heap.size)
    (hg : w.grownBy w' (Value.slice A n c).ownBlock) (h2 : w'.ownsRow lo 60 4 (.slice A' N c') N ((L.take j ++ r :: L.drop j).flatMap itemCells)) : OwnItems w' lo w'.heap.size A' N c' (L.take j ++ r :: L.drop j) := by
  have key : ∀ s : RItem, OwnS w lo w.heap.size s.A s.c s.x.ss → OwnS w' lo w'.heap.size s.A s.c s.x.ss := fun s hs =>
    ⟨own_grown hs.row hg (fun k hk => by
      intro he
      exact own_ne_type hs.row ho.row (by decide) k hk he), fun k hk => by have h1 := hs.top k hk; have h2 := hg.size; omega⟩
  have hap := ho.apart
  have hne : ∀ a ∈ L, ∀ k, a.v.ownBlock = some k → r.v.ownBlock ≠ some k := fun a ha k hk hk2 => by
    have h1 := (ho.in_ a ha).top k hk
    have h3 := (hr.row.lt k hk2).1
    omega
  rw [← List.take_append_drop j L, List.pairwise_append] at hap
  refine ⟨h2, fun k hk => (h2.lt k hk).2, fun s hs => ?_, ?_⟩
  · rcases List.mem_append.1 hs with h | h
    · exact key s ((ho.in_ s (List.mem_of_mem_take h)).wide (Nat.le_refl _) hm)
    · rcases List.mem_cons.1 h with rfl | h
      · exact key _ (hr.wide hle (Nat.le_refl _))
      · exact key s ((ho.in_ s (List.mem_of_mem_drop h)).wide (Nat.le_refl _) hm)
  · rw [List.pairwise_append, List.pairwise_cons]
    refine ⟨hap.1, ⟨fun b hb k hk hk2 => hne b (List.mem_of_mem_drop hb) k hk2 hk, hap.2.1⟩, fun a ha b hb => ?_⟩
    rcases List.mem_cons.1 hb with rfl | hb
    · exact hne a (List.mem_of_mem_take ha)
    · exact hap.2.2 a ha b hb
end Go.Proofs.Ytmmohnbmoilaaaa
