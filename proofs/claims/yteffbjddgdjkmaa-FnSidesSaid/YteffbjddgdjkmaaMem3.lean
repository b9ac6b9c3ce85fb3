/- Owned rows of elements of any size: runs of stores, one element more where there is room, a new row behind an allocation. -/
import Derived.Test.YteffbjddgdjkmaaMem2
import Derived.Laws.OwnMore
namespace Go.Proofs.Yteffbjddgdjkmaa
open Go.ChangeShapes Go.WideShapes Go.ChangeAt Go.RowKit
set_option linter.unusedVariables false

theorem own_setCellsG {e : TypeId} {base g n c size : Nat} : ∀ (vs : List Value) (o : Nat) (w : World) (xs : List Value), w.ownsRow base e size (.slice (some ⟨g, 0, none⟩) n c) n xs → o + vs.length ≤ n * size →
    (w.setCells g o vs).ownsRow base e size (.slice (some ⟨g, 0, none⟩) n c) n (xs.take o ++ (vs ++ xs.drop (o + vs.length))) ∧ w.grownBy (w.setCells g o vs) (some g)
  | [], o, w, xs, h, _ => by
    refine ⟨?_, World.grownBy.refl w _⟩
    simpa [World.setCells] using h
  | v :: vs, o, w, xs, h, hl => by
    simp only [List.length_cons] at hl
    have hx : xs.length = n * size := by have := h.1; omega
    have h1 := h.stored o v
    have h2 := own_setCellsG vs (o + 1) (w.setCell ⟨g, o, none⟩ v) (xs.set o v) h1.1 (by omega)
    refine ⟨?_, only_trans h1.2 h2.2⟩
    have he : (xs.set o v).take (o + 1) ++ (vs ++ (xs.set o v).drop (o + 1 + vs.length)) = xs.take o ++ ((v :: vs) ++ xs.drop (o + (v :: vs).length)) := by
      have hd : (xs.set o v).drop (o + 1 + vs.length) = xs.drop (o + (v :: vs).length) := by
        rw [List.drop_set_of_lt (by omega)]
        congr 1
        simp only [List.length_cons]; omega
      have ht : (xs.set o v).take (o + 1) = xs.take o ++ [v] := by
        rw [List.take_succ_eq_append_getElem (by rw [List.length_set]; omega), List.getElem_set_self, List.take_set_of_le (Nat.le_refl _)]
      rw [hd, ht]
      simp
    rw [← he]
    exact h2.1
theorem own_capG {w : World} {base n c size : Nat} {e : TypeId} {A : Option Addr} {xs : List Value} (h : w.ownsRow base e size (.slice A n c) n xs) : n ≤ c ∧ c ≤ 9223372036854775807 := by
  rcases h.2 with ⟨hv, h0⟩ | ⟨g', cap, cur, hv, _, _, h1, h2, _⟩
  · injection hv with _ _ e3; omega
  · injection hv with _ _ e3; subst e3; unfold maxLen at h2; exact ⟨h1, by omega⟩
theorem own_prefixG {w : World} {base n c m size : Nat} {e : TypeId} {a : Addr} {xs : List Value} (h : w.ownsRow base e size (.slice (some a) n c) n xs) (hm : m ≤ n) :
    w.ownsRow base e size (.slice (some a) m c) m (xs.take (m * size)) := by
  have hx := h.1
  have hmn : m * size ≤ n * size := Nat.mul_le_mul_right _ hm
  refine ⟨by rw [List.length_take]; omega, ?_⟩
  rcases h.2 with ⟨hv, hn⟩ | ⟨g, cap, cur, hv, hb, hg, hnc, hcm, hcs, ht⟩
  · injection hv with e1; cases e1
  · injection hv with e1 e2 e3
    subst e3
    refine .inr ⟨g, c, cur, by rw [e1], hb, hg, by omega, hcm, hcs, ?_⟩
    rw [← ht, List.take_take]
    congr 1
    omega
theorem bel_setCells {B b : Nat} {a : World} (hb : B ≤ b) : ∀ (vs : List Value) (o : Nat) (w : World), Below B a w → Below B a (w.setCells b o vs)
  | [], _, _, h => h
  | v :: vs, o, w, h => bel_setCells hb vs (o + 1) _ (h.setCell (p := ⟨b, o, none⟩) hb v)
/-- Where there is room, the row is a row of one element more, whatever the spare cells hold. -/
theorem own_room {w : World} {base g n c size : Nat} {e : TypeId} {xs : List Value} (h : w.ownsRow base e size (.slice (some ⟨g, 0, none⟩) n c) n xs) (hc : n + 1 ≤ c) :
    ∃ ys : List Value, ys.length = (n + 1) * size ∧ ys.take (n * size) = xs ∧ w.ownsRow base e size (.slice (some ⟨g, 0, none⟩) (n + 1) c) (n + 1) ys := by
  rcases h.2 with ⟨hv, hn⟩ | ⟨g', cap, cur, hv, hb, hg, hnc, hcm, hcs, ht⟩
  · injection hv with e1; cases e1
  · injection hv with e1 e2 e3
    injection e1 with e1
    injection e1 with e1
    subst e1 e3
    have hk : (n + 1) * size ≤ c * size := Nat.mul_le_mul_right _ hc
    have hn1 : n * size ≤ (n + 1) * size := Nat.mul_le_mul_right _ (by omega)
    refine ⟨cur.toList.take ((n + 1) * size), by rw [List.length_take, Array.length_toList]; omega, ?_, by rw [List.length_take, Array.length_toList]; omega, .inr ⟨g, c, cur, rfl, hb, hg, hc, hcm, hcs, rfl⟩⟩
    rw [List.take_take, Nat.min_eq_left hn1]
    exact ht
theorem own_wideb {w : World} {b base n size : Nat} {e : TypeId} {v : Value} {xs : List Value} (h : w.ownsRow base e size v n xs) (hb : b ≤ base) : w.ownsRow b e size v n xs := World.ownsRow.mono h hb
theorem shape_of {w : World} {g : Nat} {t : TypeId} {cs : Array Value} {fr : Nat × Nat} (h : w.heap[g]? = some (.cells cs t fr)) : w.shape? g = some (t, cs.size) := by unfold World.shape?; rw [h]
theorem own_block {w : World} {base g n c size : Nat} {e : TypeId} {xs : List Value} (h : w.ownsRow base e size (.slice (some ⟨g, 0, none⟩) n c) n xs) : ∃ cur : Array Value, w.heap[g]? = some (.cells cur e (0, 0)) ∧ cur.size = c * size ∧ c ≤ maxLen ∧ base ≤ g := by
  rcases h.2 with ⟨hv, hn⟩ | ⟨g', cap, cur, hv, hb, hg, hnc, hcm, hcs, ht⟩
  · injection hv with e1; cases e1
  · injection hv with e1 e2 e3
    injection e1 with e1
    injection e1 with e1
    subst e1 e3
    exact ⟨cur, hg, hcs, hcm, hb⟩
/-- A new row behind an allocation. -/
theorem own_new {w : World} {base n G size : Nat} {e : TypeId} {cur : Array Value} {xs : List Value} (hb : base ≤ w.heap.size) (hn : n ≤ G) (hG : G ≤ maxLen) (hs : cur.size = G * size) (hx : xs.length = n * size) (ht : cur.toList.take (n * size) = xs) :
    (w.alloc (.cells cur e)).ownsRow base e size (.slice (some ⟨w.heap.size, 0, none⟩) n G) n xs :=
  ⟨hx, .inr ⟨w.heap.size, G, cur, rfl, hb, heap_alloc_new w _, hn, hG, hs, ht⟩⟩
/-- What a shift to the right by one element leaves, and the element put in. -/
theorem lay_shift {ys cs vs : List Value} {i n size : Nat} (hy : ys.length = (n + 1) * size) (hc : ys.take (n * size) = cs) (hi : i ≤ n) (hv : vs.length = size) :
    let zs := ys.take ((i + 1) * size) ++ (cs.drop (i * size) ++ ys.drop ((i + 1) * size + (cs.drop (i * size)).length))
    zs.take (i * size) ++ (vs ++ zs.drop (i * size + vs.length)) = cs.take (i * size) ++ (vs ++ cs.drop (i * size)) := by
  intro zs
  have h1 : i * size ≤ n * size := Nat.mul_le_mul_right _ hi
  have h2 : (n + 1) * size = n * size + size := by rw [Nat.succ_mul]
  have h3 : (i + 1) * size = i * size + size := by rw [Nat.succ_mul]
  have hl : cs.length = n * size := by rw [← hc, List.length_take]; omega
  have hd : ys.drop ((i + 1) * size + (cs.drop (i * size)).length) = [] := List.drop_eq_nil_of_le (by rw [List.length_drop]; omega)
  have hz : zs = ys.take ((i + 1) * size) ++ cs.drop (i * size) := by show ys.take ((i + 1) * size) ++ (cs.drop (i * size) ++ ys.drop ((i + 1) * size + (cs.drop (i * size)).length)) = _; rw [hd, List.append_nil]
  have ht : zs.take (i * size) = cs.take (i * size) := by
    rw [hz, List.take_append_of_le_length (by rw [List.length_take]; omega), List.take_take, ← hc, List.take_take]
    congr 1
    omega
  have hdr : zs.drop (i * size + vs.length) = cs.drop (i * size) := by
    rw [hz]
    have : (ys.take ((i + 1) * size)).length = i * size + vs.length := by rw [List.length_take]; omega
    rw [← this, List.drop_left]
  rw [ht, hdr]
end Go.Proofs.Yteffbjddgdjkmaa
