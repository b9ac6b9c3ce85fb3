/- slices.Insert of one string into an owned []string: the four roads under one contract. -/
import Derived.Test.YtmnlinclbnbpoaaMem3
import Derived.Shelf.Spec.SlicesInsertGrow
namespace Go.Proofs.Ytmnlinclbnbpoaa
open Go.ChangeShapes Go.WideShapes Go.ChangeAt Go.RowKit
set_option linter.unusedVariables false
set_option maxRecDepth 10000

def layI_ren : Go.Shelf.Ren := ⟨fun | 17 => 79 | 22 => 56 | 29 => 95 | 30 => 96 | 36 => 116 | n => n, fun | 24 => 24 | 9 => 9 | 3 => 3 | 4 => 4 | 0 => 0 | n => n, fun | n => n⟩
theorem layI : Go.Proofs.Lays2.n22 Try.prog layI_ren := {
  mixed := by kernel_rfl
  f17 := Try.func79.trans (congrArg some (by kernel_rfl))
  f22 := Try.func56.trans (congrArg some (by kernel_rfl))
  f29 := Try.func95.trans (congrArg some (by kernel_rfl))
  f30 := Try.func96.trans (congrArg some (by kernel_rfl))
  f36 := Try.func116.trans (congrArg some (by kernel_rfl))
  t0 := Try.underlying0
  a0 := Try.isAgg0
  z0 := Try.sizeOf0
  v0 := Try.zeroValue0
  t3 := Try.underlying3
  a3 := Try.isAgg3
  z3 := Try.sizeOf3
  v3 := Try.zeroValue3
  t4 := Try.underlying4
  a4 := Try.isAgg4
  z4 := Try.sizeOf4
  v4 := Try.zeroValue4
  t9 := Try.underlying9
  a9 := Try.isAgg9
  z9 := Try.sizeOf9
  v9 := Try.zeroValue9
  t24 := Try.underlying24
  a24 := Try.isAgg24
  z24 := Try.sizeOf24
  v24 := Try.zeroValue24
  i9 := by kernel_rfl }
theorem one_str (ss : List ByteArray) : ∀ v ∈ ss.map Value.string, v.oneCell' = true := by
  intro v hv; obtain ⟨s, _, rfl⟩ := List.mem_map.1 hv; rfl
theorem ins_list (ss : List ByteArray) (s : ByteArray) (i : Nat) : (ss.take i ++ s :: ss.drop i).map Value.string = (ss.map Value.string).take i ++ ([.string s] ++ (ss.map Value.string).drop i) := by
  rw [List.map_append, List.map_take, List.map_cons, List.map_drop]; rfl
/-- slices.Insert(s, i, x) at an owned []string. -/
theorem ins_str (base g n c i vb : Nat) (tv : TypeId) (ss : List ByteArray) (s : ByteArray) (w : World) (hO : w.ownsRow base 9 1 (.slice (some ⟨g, 0, none⟩) n c) n (ss.map Value.string)) (hn : n ≤ 16777216) (hi : i ≤ n)
    (hv : w.heap[vb]? = some (.cells #[.string s] tv (0, 0))) (hne : vb ≠ g) :
    Calls Try.prog 56 #[.slice (some ⟨g, 0, none⟩) n c, .int .i64 i, .slice (some ⟨vb, 0, none⟩) 1 1] w fun e w' => ∃ g' c', e = .returned (.slice (some ⟨g', 0, none⟩) (n + 1) c') ∧
      w'.ownsRow base 9 1 (.slice (some ⟨g', 0, none⟩) (n + 1) c') (n + 1) ((ss.take i ++ s :: ss.drop i).map Value.string) ∧ w.grownBy w' (some g) ∧ (g' = g ∨ w.heap.size ≤ g') := by
  have hl : (ss.map Value.string).length = n := by have := hO.1; omega
  have hone := one_str ss
  obtain ⟨cur, hblk, hcs, hcm, hbg⟩ := own_block hO
  have hglt := blk_lt hblk
  have hvlt := blk_lt hv
  rw [ins_list]
  generalize ss.map Value.string = cs at *
  obtain ⟨hnc, hc63⟩ := own_capG hO
  have hvs : ∀ j v, ([.string s] : List Value)[j]? = some v → w.cell? ⟨vb, 0 + j, none⟩ = some v := by
    intro j v hj
    rw [(blk_cells hv (0 + j)).1]
    rw [Nat.zero_add]
    rcases j with _ | j
    · simpa using hj
    · simp at hj
  have h1v : ∀ v ∈ ([.string s] : List Value), v.oneCell' = true := by intro v hv; simp at hv; subst hv; rfl
  have hcell : ∀ j v, cs[j]? = some v → w.cell? ⟨g, 0 + j, none⟩ = some v := by
    intro j v hj
    have hjl : j < n := by have := (List.getElem?_eq_some_iff.1 hj).1; omega
    rw [Nat.zero_add, hO.cellAt j (by omega)]
    exact hj
  by_cases hroom : n + 1 ≤ c
  · obtain ⟨ys, hyl, hyt, hOy⟩ := own_room hO hroom
    have hsp : ∀ j, j < n + 1 → (w.cell? ⟨g, 0 + j, none⟩).isSome = true := by
      intro j hj
      rw [Nat.zero_add, hOy.cellAt j (by omega), List.getElem?_eq_getElem (by omega)]; rfl
    have hfz : ∀ j, w.frozen? ⟨g, j, none⟩ = false := fun j => hO.frozenAt j
    by_cases hin : i = n
    · subst hin
      refine (Any2.slices_Insert_string_end_room layI g 0 i c vb 0 1 1 [.string s] w (by omega) hroom (by omega) rfl (fun j hj => by have := hsp (i + j) (by omega); rwa [← Nat.add_assoc] at this) (fun j _ => hfz _) hvs h1v).mono ?_
      rintro e w' ⟨rfl, rfl⟩
      have h := own_setCellsG [.string s] (0 + i) w ys hOy (by simp)
      refine ⟨g, c, rfl, ?_, h.2, .inl rfl⟩
      have h1 := h.1
      have e1 : ys.take (0 + i) = cs.take i := by rw [Nat.zero_add, List.take_of_length_le (by omega : cs.length ≤ i)]; simpa using hyt
      have e2 : ys.drop (0 + i + ([.string s] : List Value).length) = cs.drop i := by rw [List.drop_eq_nil_of_le (by simp; omega), List.drop_eq_nil_of_le (by omega)]
      rw [e1, e2] at h1
      exact h1
    · refine (Any2.slices_Insert_string_shift layI g 0 n c i vb 0 1 1 cs [.string s] w (by omega) (by omega) hroom (by omega) hne hl rfl hcell hsp (fun j _ => hfz _) hvs hone h1v tv 9 1 cur.size (shape_of hv) (shape_of hblk) (by omega) (blk_cells hv 0).2 (blk_cells hv 1).2).mono ?_
      rintro e w' ⟨rfl, rfl⟩
      have hdl : (cs.drop i).length = n - i := by rw [List.length_drop, hl]
      have h := own_setCellsG (cs.drop i) (0 + (i + 1)) w.drew ys hOy.drew (by omega)
      have k := own_setCellsG [.string s] (0 + i) _ _ h.1 (by simp; omega)
      refine ⟨g, c, rfl, ?_, only_trans (only_trans (grown_drewN w 1 _) h.2) k.2, .inl rfl⟩
      have hk := k.1
      have hy := lay_shift (size := 1) (ys := ys) (cs := cs) (vs := [.string s]) (i := i) (n := n) (by omega) hyt (by omega) rfl
      simp only [Nat.mul_one] at hy
      simp only [Nat.zero_add] at hk ⊢
      rw [hy] at hk
      exact hk
  · have hcn : c = n := by omega
    have hG1 := grownCap_ge w (n + 1) c 9
    have hG2 := grownCap_le_maxLen w (n + 1) c 9 (by unfold maxLen; omega)
    by_cases hin : i = n
    · subst hin
      refine (Any2.slices_Insert_string_end_grow layI (some ⟨g, 0, none⟩) i c vb 0 1 1 cs [.string s] w (by omega) hnc (by omega) (by omega) hl rfl (by intro h; cases h) (by intro a ha j v hj; injection ha with ha; subst ha; rw [Addr.add_lit]; exact hcell j v hj) hvs h1v).mono ?_
      rintro e w' ⟨rfl, rfl⟩
      have hr : layI_ren.t 9 = 9 := rfl
      rw [hr]
      refine ⟨w.heap.size, _, rfl, ?_, grown_of_below (Below.alloc (Below.refl _ _).drew (Nat.le_refl _) _) _, .inr (Nat.le_refl _)⟩
      refine own_new (w := w.drew) (by show base ≤ w.heap.size; omega) hG1 hG2 ?_ ?_ ?_
      · simp [Builtin.zeroCells, Value.cells, hl]; omega
      · simp [hl]
      · rw [Array.toList_append, List.take_append_of_le_length (by simp [hl]), List.take_of_length_le (by simp [hl]), List.take_of_length_le (by omega), List.drop_eq_nil_of_le (by omega)]
        simp
    · refine (Any2.slices_Insert_string_grow layI g 0 n c i vb 0 1 1 cs [.string s] w (by omega) (by omega) hnc (by omega) (by omega) hl rfl hcell hvs hone h1v).mono ?_
      rintro e w' ⟨rfl, rfl⟩
      have hr : layI_ren.t 9 = 9 := rfl
      rw [hr]
      generalize hG : grownCap w (n + 1) c 9 = G at *
      generalize hR : ((cs.take i).toArray ++ Builtin.zeroCells (Value.string ⟨#[]⟩).cells (n + 1 - i) ++ Builtin.zeroCells (Value.string ⟨#[]⟩).cells (G - (n + 1)) : Array Value) = ROW
      have hRl : ROW.size = G * 1 := by
        rw [← hR]; simp [Builtin.zeroCells, Value.cells, hl]; omega
      have hRt : ROW.toList.take i = cs.take i := by
        rw [← hR, Array.toList_append, Array.toList_append, List.append_assoc, List.take_append_of_le_length (by simp [hl]; omega), List.take_of_length_le (by rw [List.length_take]; omega)]
      have h0 : (w.alloc (.cells ROW 9)).drew.ownsRow base 9 1 (.slice (some ⟨w.heap.size, 0, none⟩) (n + 1) G) (n + 1) (ROW.toList.take ((n + 1) * 1)) :=
        (own_new (w := w) (by omega) hG1 hG2 hRl (by rw [List.length_take, Array.length_toList, hRl]; omega) rfl).drew
      have h := own_setCellsG [.string s] i _ _ h0 (by simp; omega)
      have k := own_setCellsG (cs.drop i) (i + 1) _ _ h.1.drew (by rw [List.length_drop]; omega)
      refine ⟨w.heap.size, G, rfl, ?_, ?_, .inr (Nat.le_refl _)⟩
      · have hk := k.1
        refine cast (congrArg _ ?_) hk
        have hz : (ROW.toList.take ((n + 1) * 1)).length = n + 1 := by rw [List.length_take, Array.length_toList, hRl]; omega
        generalize hQ : ROW.toList.take ((n + 1) * 1) = Q at *
        have hQi : Q.take i = cs.take i := by rw [← hQ, List.take_take, Nat.min_eq_left (by omega), hRt]
        have hil : (Q.take i).length = i := by rw [List.length_take]; omega
        have e1 : (Q.take i ++ ([Value.string s] ++ Q.drop (i + ([Value.string s] : List Value).length))).take (i + 1) = cs.take i ++ [Value.string s] := by
          rw [← List.append_assoc, List.take_append_of_le_length (by rw [List.length_append, hil]; exact Nat.le_refl _), List.take_of_length_le (by rw [List.length_append, hil]; exact Nat.le_refl _), hQi]
        have e2 : (Q.take i ++ ([Value.string s] ++ Q.drop (i + ([Value.string s] : List Value).length))).drop (i + 1 + (cs.drop i).length) = [] := List.drop_eq_nil_of_le (by simp only [List.length_append, List.length_drop, List.length_cons, List.length_nil, hil, hl, hz]; omega)
        rw [e1, e2]
        simp
      · refine grown_of_below ?_ _
        have hB : Below w.heap.size w (w.alloc (.cells ROW 9)).drew := (Below.alloc (Below.refl _ _) (Nat.le_refl _) _).drew
        exact (bel_setCells (Nat.le_refl _) _ _ _ (bel_setCells (Nat.le_refl _) _ _ _ hB).drew)
end Go.Proofs.Ytmnlinclbnbpoaa
