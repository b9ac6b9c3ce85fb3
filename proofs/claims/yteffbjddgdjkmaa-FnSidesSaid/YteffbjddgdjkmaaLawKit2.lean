/- More small words for the walks of the laws: a variable of the law that is stored behind calls. -/
import Derived.Test.YteffbjddgdjkmaaLawKit
namespace Go.Proofs.Yteffbjddgdjkmaa
open Go.ChangeShapes Go.WideShapes Go.ChangeAt Go.RowKit
set_option linter.unusedVariables false
set_option maxRecDepth 10000

theorem own_base {w : World} {base base' : Nat} {e : TypeId} {size : Nat} {v : Value} {n : Nat} {xs : List Value} (h : w.ownsRow base e size v n xs) (hb : base' ≤ base) : w.ownsRow base' e size v n xs :=
  own_up h (Upper.refl _ _) hb
theorem blk_new_at (W : World) (o : Obj) {k : Nat} (hk : W.heap.size = k) : (W.alloc o).heap[k]? = some o := by subst hk; exact blk_new W o
theorem own_setvar {w : World} {base g i : Nat} {e t : TypeId} {v : Value} {n : Nat} {xs : List Value} {cs : Array Value} (h : w.ownsRow base e 1 v n xs) (hk : w.heap[g]? = some (.cells cs t (0, 0))) (hne : e ≠ t) (u : Value) :
    (w.setCell ⟨g, i, none⟩ u).ownsRow base e 1 v n xs := by
  have hg : w.grownBy (w.setCell ⟨g, i, none⟩ u) (some g) := only_setCell (World.grownBy.refl w _) (.inl rfl) u
  refine h.kept hg ?_
  rcases h.2 with ⟨rfl, _⟩ | ⟨g', cap, cur, rfl, _, hh, _⟩
  · exact .inl rfl
  · refine .inr ?_
    intro he
    have : g' = g := by simpa [Value.ownBlock] using he
    subst this
    rw [hk] at hh
    injection hh with hh
    injection hh with _ h2
    exact hne h2.symm
theorem blk3_set {w : World} {g : Nat} {t : TypeId} {z0 z1 z2 : Value} (h : w.heap[g]? = some (.cells #[z0, z1, z2] t (0, 0))) (a b c : Value) :
    (((w.setCell ⟨g, 0, none⟩ a).setCell ⟨g, 1, none⟩ b).setCell ⟨g, 2, none⟩ c).heap[g]? = some (.cells #[a, b, c] t (0, 0)) := by
  have := blk_set (blk_set (blk_set h 0 a) 1 b) 2 c
  simpa using this
theorem own3_set {w : World} {base g : Nat} {e t : TypeId} {v : Value} {n : Nat} {xs : List Value} {z0 z1 z2 : Value} (h : w.ownsRow base e 1 v n xs) (hk : w.heap[g]? = some (.cells #[z0, z1, z2] t (0, 0))) (hne : e ≠ t) (a b c : Value) :
    (((w.setCell ⟨g, 0, none⟩ a).setCell ⟨g, 1, none⟩ b).setCell ⟨g, 2, none⟩ c).ownsRow base e 1 v n xs :=
  own_setvar (own_setvar (own_setvar h hk hne a) (blk_set hk 0 a) hne b) (blk_set (blk_set hk 0 a) 1 b) hne c
theorem blk4 {w : World} {g : Nat} {t : TypeId} {a0 a1 a2 a3 : Value} (h : w.heap[g]? = some (.cells #[a0, a1, a2, a3] t (0, 0))) :
    w.cell? ⟨g, 0, none⟩ = some a0 ∧ w.cell? ⟨g, 1, none⟩ = some a1 ∧ w.cell? ⟨g, 2, none⟩ = some a2 ∧ w.cell? ⟨g, 3, none⟩ = some a3 ∧ g < w.heap.size :=
  ⟨(blk_cells h 0).1, (blk_cells h 1).1, (blk_cells h 2).1, (blk_cells h 3).1, blk_lt h⟩
theorem blk7 {w : World} {g : Nat} {t : TypeId} {a0 a1 a2 a3 a4 a5 a6 : Value} (h : w.heap[g]? = some (.cells #[a0, a1, a2, a3, a4, a5, a6] t (0, 0))) :
    w.cell? ⟨g, 0, none⟩ = some a0 ∧ w.cell? ⟨g, 1, none⟩ = some a1 ∧ w.cell? ⟨g, 2, none⟩ = some a2 ∧ w.cell? ⟨g, 3, none⟩ = some a3 ∧ w.cell? ⟨g, 4, none⟩ = some a4 ∧ w.cell? ⟨g, 5, none⟩ = some a5 ∧ w.cell? ⟨g, 6, none⟩ = some a6 ∧ g < w.heap.size :=
  ⟨(blk_cells h 0).1, (blk_cells h 1).1, (blk_cells h 2).1, (blk_cells h 3).1, (blk_cells h 4).1, (blk_cells h 5).1, (blk_cells h 6).1, blk_lt h⟩
theorem blk10 {w : World} {g : Nat} {t : TypeId} {a0 a1 a2 a3 a4 a5 a6 a7 a8 a9 : Value} (h : w.heap[g]? = some (.cells #[a0, a1, a2, a3, a4, a5, a6, a7, a8, a9] t (0, 0))) :
    w.cell? ⟨g, 0, none⟩ = some a0 ∧ w.cell? ⟨g, 1, none⟩ = some a1 ∧ w.cell? ⟨g, 2, none⟩ = some a2 ∧ w.cell? ⟨g, 3, none⟩ = some a3 ∧ w.cell? ⟨g, 4, none⟩ = some a4 ∧ w.cell? ⟨g, 5, none⟩ = some a5 ∧ w.cell? ⟨g, 6, none⟩ = some a6 ∧ w.cell? ⟨g, 7, none⟩ = some a7 ∧ w.cell? ⟨g, 8, none⟩ = some a8 ∧ w.cell? ⟨g, 9, none⟩ = some a9 ∧ g < w.heap.size :=
  ⟨(blk_cells h 0).1, (blk_cells h 1).1, (blk_cells h 2).1, (blk_cells h 3).1, (blk_cells h 4).1, (blk_cells h 5).1, (blk_cells h 6).1, (blk_cells h 7).1, (blk_cells h 8).1, (blk_cells h 9).1, blk_lt h⟩
theorem sz_ub (ss : List ByteArray) (l : Int) (h : l ≤ 1048576) : szStrs ss l ≤ 1048576 := by
  unfold szStrs; split <;> omega
theorem strs_of_szl {W : World} {A : Option Addr} {n : Nat} {ss : List ByteArray} {l : Int} (hR : Reads W W.heap.size 1 A n (ss.map Value.string)) (hl1 : l ≤ 1048576) (hz : 0 ≤ szStrs ss l) : Strs W W.heap.size A n ss ∧ n ≤ 1048576 := by
  have hl : ss.length = n := by have := hR.1; simpa using this
  unfold szStrs at hz
  split at hz
  · omega
  · exact ⟨⟨hR, by omega, fun s hs => by have := tot_mem hs; omega⟩, by omega⟩
end Go.Proofs.Yteffbjddgdjkmaa
