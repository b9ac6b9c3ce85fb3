/- slices.Insert of one item into a row of items of one's own: the roads under one contract. -/
import Derived.Test.YtmmohnbmoilaaaaItem9
import Derived.Shelf.Spec.SlicesInsertGrow
import Derived.Deep.DeepCutAuto
namespace Go.Proofs.Ytmmohnbmoilaaaa
open Go.ChangeShapes Go.WideShapes Go.ChangeAt Go.RowKit Go.Lib
set_option linter.unusedVariables false
set_option maxRecDepth 10000

theorem run_copy_cellsG {P : Program} (w : World) (dT sT ty elem : TypeId) (b o dLen dCap : Nat) (a : Addr) (sLen sCap : Nat) (cs : List Value) (size : Nat)
    (hu : P.underlying dT = some (.slice elem)) (hs : (P.info? elem).map (·.size) = some size) (hn : cs.length = Nat.min sLen dLen * size)
    (hsrc : ∀ j v, cs[j]? = some v → w.cell? (a.add j) = some v) (hc : ∀ j, j < cs.length → (w.cell? ⟨b, o + j, none⟩).isSome = true) (hf : ∀ j, j < cs.length → w.frozen? ⟨b, o + j, none⟩ = false) (h1 : ∀ v ∈ cs, v.oneCell' = true) :
    (Builtin.copy_ #[dT, sT] ty #[.slice (some ⟨b, o, none⟩) dLen dCap, .slice (some a) sLen sCap]).run P w = .ok (goInt (Nat.min sLen dLen)) (w.setCells b o cs) := by
  have hl := run_loadCells_list (P := P) w a cs hsrc
  have hst := run_storeCells_cells (P := P) b o cs 0 w (by simpa using hc) (by simpa using hf) h1
  cases hq : P.info? elem with
  | none => simp [hq] at hs
  | some i =>
    have hi : i.size = size := by simpa [hq] using hs
    simp [Builtin.copy_, run_underlying hu, Builtin.lenOf, Builtin.firstCells, sizeOf, typeInfo, hq, hi, ← hn, hl, hst]

set_option maxHeartbeats 4000000 in
set_option maxRecDepth 100000 in
theorem insI_shift (b off n c i vb voff m vc : Nat) (cs vs : List Value) (w : World) (hi : i < n) (hm : 0 < m) (hroom : n + m ≤ c) (hc63 : c ≤ 9223372036854775807) (hvb : vb ≠ b)
    (hcl : cs.length = n * 4) (hvl : vs.length = m * 4)
    (hcs : ∀ j v, cs[j]? = some v → w.cell? ⟨b, off + j, none⟩ = some v) (hsp : ∀ j, j < (n + m) * 4 → (w.cell? ⟨b, off + j, none⟩).isSome = true) (hfz : ∀ j, j < (n + m) * 4 → w.frozen? ⟨b, off + j, none⟩ = false)
    (hvs : ∀ j v, vs[j]? = some v → w.cell? ⟨vb, voff + j, none⟩ = some v) (h1c : ∀ v ∈ cs, v.oneCell' = true) (h1v : ∀ v ∈ vs, v.oneCell' = true)
    (tA tB : TypeId) (kA kB : Nat) (hsa : w.shape? vb = some (tA, kA)) (hsb : w.shape? b = some (tB, kB)) (hkB : kB ≠ 0) (hfa : w.frozen? ⟨vb, voff, none⟩ = false) (hfe : w.frozen? ⟨vb, kA, none⟩ = false) :
    Calls Try.prog 104 #[.slice (some ⟨b, off, none⟩) n c, .int .i64 i, .slice (some ⟨vb, voff, none⟩) m vc] w fun e w' =>
      e = .returned (.slice (some ⟨b, off, none⟩) (n + m) c) ∧ w' = (w.drew.setCells b (off + (i + m) * 4) (cs.drop (i * 4))).setCells b (off + i * 4) vs := by
  have mixed : Try.prog.follows Departure.mixedOrders = true := by kernel_rfl
  have hz1 : ¬ ((m : Int) = 0) := by omega
  have hz2 : ¬ ((i : Int) = (n : Int)) := by omega
  have hsz : (Try.prog.info? 60).map (·.size) = some 4 := by
    obtain ⟨i0, hi0, h0, h1, h2⟩ := info_parts info_itemCells
    rw [hi0]; simp [h1]
  have hov : ∀ lb cb, (callFunc 167 #[.slice (some ⟨vb, voff, none⟩) m vc, .slice (some ⟨b, off + (i + m) * 4, none⟩) lb cb]).run Try.prog w = .ok (.value (.bool false)) w := fun lb cb => by
    rw [run_callFunc_extern Try.func167 (by kernel_rfl) (by kernel_rfl) (by kernel_rfl) (e := Extern.SlicesOverlaps.overlaps #[55, 55] #[4]) (by kernel_rfl),
      Lib.run_overlaps_apart w 55 4 60 Try.underlying55 4 Try.sizeOf60 ⟨vb, voff, none⟩ ⟨b, off + (i + m) * 4, none⟩ m vc lb cb hvb tA tB kA kB hsa hsb hkB hfa hfe]
    rfl
  have hdl : (cs.drop (i * 4)).length = (n - i) * 4 := by rw [List.length_drop, hcl]; omega
  have hw1 : IntKind.i64.wrap ((i : Int) + (m : Int)) = (i : Int) + (m : Int) := by rw [IntKind.wrap_i64]; omega
  have hb1 : (0 : Int) ≤ (i : Int) + (m : Int) := by omega
  have hin : i ≤ n := by omega
  have htn : ((i : Int) + (m : Int)).toNat = i + m := by omega
  have hb2 : ¬ (c = i + m) := by omega
  have hb3 : (i : Int) ≤ (n : Int) + (m : Int) := by omega
  have hb4 : ¬ (c = i) := by omega
  have hcp1 : ∀ ty dc sc, (Builtin.copy_ #[55, 55] ty #[.slice (some ⟨b, off + (i + m) * 4, none⟩) (n + m - (i + m)) dc, .slice (some ⟨b, off + i * 4, none⟩) (n + m - i) sc]).run Try.prog w.drew = .ok (goInt (Nat.min (n + m - i) (n + m - (i + m)))) (w.drew.setCells b (off + (i + m) * 4) (cs.drop (i * 4))) := fun ty dc sc =>
    run_copy_cellsG w.drew _ _ ty 60 b (off + (i + m) * 4) (n + m - (i + m)) dc ⟨b, off + i * 4, none⟩ (n + m - i) sc (cs.drop (i * 4)) 4 Try.underlying55 hsz (by rw [hdl]; simp only [Nat.min_def]; split <;> omega)
      (fun j v hj => by rw [Addr.add_lit, Nat.add_assoc]; exact hcs (i * 4 + j) v (by rwa [List.getElem?_drop] at hj))
      (fun j hj => by rw [Nat.add_assoc]; exact hsp _ (by omega)) (fun j hj => by rw [Nat.add_assoc]; exact hfz _ (by omega)) (fun v hv => h1c v (List.mem_of_mem_drop hv))
  obtain ⟨W1, hW1⟩ : ∃ W1, W1 = w.drew.setCells b (off + (i + m) * 4) (cs.drop (i * 4)) := ⟨_, rfl⟩
  have hsp1 : ∀ k, k < (n + m) * 4 → (W1.cell? ⟨b, off + k, none⟩).isSome = true := fun k hk => by
    rw [hW1]
    exact isSome_setCells b _ _ _ (fun j hj => by rw [Nat.add_assoc]; exact hsp _ (by omega)) _ (hsp k hk)
  have hcp2 : ∀ (W : World), (∀ x, W.cell? x = W1.cell? x) → (∀ x, W.frozen? x = W1.frozen? x) → ∀ ty dc, (Builtin.copy_ #[55, 55] ty #[.slice (some ⟨b, off + i * 4, none⟩) (n + m - i) dc, .slice (some ⟨vb, voff, none⟩) m vc]).run Try.prog W = .ok (goInt (Nat.min m (n + m - i))) (W.setCells b (off + i * 4) vs) := fun W hWc hWf ty dc =>
    run_copy_cellsG W _ _ ty 60 b (off + i * 4) (n + m - i) dc ⟨vb, voff, none⟩ m vc vs 4 Try.underlying55 hsz (by rw [hvl]; simp only [Nat.min_def]; split <;> omega)
      (fun j v hj => by
        rw [Addr.add_lit, hWc, hW1, World.cell?_setCells_out b _ _ _ _ (fun h _ => absurd h hvb)]
        exact hvs j v hj)
      (fun j hj => by rw [hWc, Nat.add_assoc]; exact hsp1 _ (by omega)) (fun j hj => by rw [hWf, hW1, World.frozen?_setCells, Nat.add_assoc]; exact hfz _ (by omega)) h1v
  rw [← hW1] at hcp1
  go_enter Try.func104, Try.ntmps104
  go_wp2_with (simp only [hov])
  go_region_law_o (refine step_copy_runI rfl _ _ 55 55 rfl _ _ (by simp [Act.eval, Act.put]) (by simp [Act.eval, Act.put]) (hcp1 _ _ _) ?_)
  go_wp2_with (at_builtin; refine wpList_copy_runI _ rfl _ _ 55 55 rfl _ _ rfl rfl (hcp2 _ (fun _ => rfl) (fun _ => rfl) _ _) ?_)
  go_ret
  first | exact ⟨rfl, rfl⟩ | exact ⟨rfl, by rw [hW1]⟩

set_option maxHeartbeats 4000000 in
set_option maxRecDepth 100000 in
theorem insI_grow (b off n c i vb voff m vc : Nat) (cs vs : List Value) (w : World) (hi : i < n) (hm : 0 < m) (hnc : n ≤ c) (hroom : c < n + m) (hbig : (n + m) * 56 ≤ 140737488355328)
    (hcl : cs.length = n * 4) (hvl : vs.length = m * 4)
    (hcs : ∀ j v, cs[j]? = some v → w.cell? ⟨b, off + j, none⟩ = some v)
    (hvs : ∀ j v, vs[j]? = some v → w.cell? ⟨vb, voff + j, none⟩ = some v) (h1c : ∀ v ∈ cs, v.oneCell' = true) (h1v : ∀ v ∈ vs, v.oneCell' = true) :
    Calls Try.prog 104 #[.slice (some ⟨b, off, none⟩) n c, .int .i64 i, .slice (some ⟨vb, voff, none⟩) m vc] w fun e w' =>
      ∃ (G : Nat) (ROW : Array Value), n + m ≤ G ∧ G ≤ maxLen ∧ ROW.size = G * 4 ∧ ROW.toList.take (i * 4) = cs.take (i * 4) ∧ e = .returned (.slice (some ⟨w.heap.size, 0, none⟩) (n + m) G) ∧
      w' = (((w.alloc (.cells ROW 60)).drew.setCells w.heap.size (i * 4) vs).drew).setCells w.heap.size ((i + m) * 4) (cs.drop (i * 4)) := by
  obtain ⟨i0, hi0, hz0, hzs, hzb⟩ := info_parts info_itemCells
  have mixed : Try.prog.follows Departure.mixedOrders = true := by kernel_rfl
  have hz1 : ¬ ((m : Int) = 0) := by omega
  have hz2 : ¬ ((i : Int) = (n : Int)) := by omega
  have hz3 : (c : Int) < (n : Int) + (m : Int) := by omega
  have hsz : (Try.prog.info? 60).map (·.size) = some 4 := by rw [hi0]; simp [hzs]
  have hbw : b < w.heap.size := block_lt_of_cell (hcs 0 _ (List.getElem?_eq_getElem (by omega)))
  have hvw : vb < w.heap.size := block_lt_of_cell (hvs 0 _ (List.getElem?_eq_getElem (by omega)))
  have hkk : (n : Int) + (m : Int) - (i : Int) = ((n + m - i : Nat) : Int) := by omega
  have hik : i + (n + m - i) = n + m := by omega
  have hold : (Builtin.firstCells i0.size i (.slice (some ⟨b, off, none⟩) i c)).run Try.prog w.drew = .ok (cs.take (i * 4)).toArray w.drew := by
    rw [hzs]
    exact run_firstCells_some w.drew 4 i ⟨b, off, none⟩ i c (cs.take (i * 4)) (by rw [List.length_take]; omega) (fun j v hj => by
      rw [Addr.add_lit]
      rw [List.getElem?_take] at hj
      split at hj
      · exact hcs j v hj
      · cases hj)
  have hGt : n + m ≤ grownCap w (n + m) c 60 := grownCap_ge w _ _ _
  have hGm := grownCap_le_maxLen w (n + m) c 60 (by unfold maxLen; omega)
  have hrz : ∀ ty, (Builtin.append_ #[55, 3] ty #[.slice (some ⟨b, off, none⟩) i c, .int .i64 ((n : Int) + (m : Int) - (i : Int))]).run Try.prog w =
      .ok (.slice (some ⟨w.heap.size, 0, none⟩) (n + m) (grownCap w (n + m) c 60)) (w.drew.alloc (.cells ((cs.take (i * 4)).toArray ++ Builtin.zeroCells (Value.agg #[.string ByteArray.empty, .int .i64 0, .int .i64 0, .slice none 0 0]).cells (n + m - i) ++ Builtin.zeroCells (Value.agg #[.string ByteArray.empty, .int .i64 0, .int .i64 0, .slice none 0 0]).cells (grownCap w (n + m) c 60 - (n + m))) 60)) := fun ty => by
    have h := Lib.run_append_grow_zeros w 55 3 ty 60 i0 _ .i64 .i64 Try.underlying55 Try.underlying3 hi0 hz0 (some ⟨b, off, none⟩) i c (cs.take (i * 4)) hold (n + m - i) (by omega) (by omega) (by omega) (by omega) (by rw [hzb]; omega) (by rw [hzb, hik]; exact growslice_fits hroom hbig)
    rw [hik] at h
    rw [hkk]
    exact h
  obtain ⟨G, hG⟩ : ∃ G, G = grownCap w (n + m) c 60 := ⟨_, rfl⟩
  rw [← hG] at hrz hGt hGm
  obtain ⟨ROW, hROW⟩ : ∃ ROW : Array Value, ROW = (cs.take (i * 4)).toArray ++ Builtin.zeroCells (Value.agg #[.string ByteArray.empty, .int .i64 0, .int .i64 0, .slice none 0 0]).cells (n + m - i) ++ Builtin.zeroCells (Value.agg #[.string ByteArray.empty, .int .i64 0, .int .i64 0, .slice none 0 0]).cells (G - (n + m)) := ⟨_, rfl⟩
  rw [← hROW] at hrz
  have hRs : ROW.size = G * 4 := by
    rw [hROW]
    simp [Builtin.zeroCells, Value.cells, hcl]
    omega
  have hRt : ROW.toList.take (i * 4) = cs.take (i * 4) := by
    rw [hROW, Array.toList_append, Array.toList_append, List.append_assoc, List.take_append_of_le_length (by simp [hcl]; omega), List.take_of_length_le (by rw [List.length_take]; omega)]
  have hRl : (n + m) * 4 ≤ ROW.size := by rw [hRs]; omega
  obtain ⟨W1, hW1⟩ : ∃ W1, W1 = w.drew.alloc (.cells ROW 60) := ⟨_, rfl⟩
  rw [← hW1] at hrz
  have hN : ∀ j, j < (n + m) * 4 → (W1.cell? ⟨w.heap.size, j, none⟩).isSome = true := fun j hj => by
    rw [hW1, World.cell?_alloc_at (w := w.drew) ROW _ w.heap.size j rfl, Array.getElem?_eq_getElem (by omega)]; rfl
  have hNf : ∀ j, W1.frozen? ⟨w.heap.size, j, none⟩ = false := fun j => by rw [hW1]; exact World.frozen?_alloc_at (w := w.drew) ROW _ w.heap.size j rfl
  have hOb : ∀ j v, w.cell? ⟨b, j, none⟩ = some v → W1.cell? ⟨b, j, none⟩ = some v := fun j v h => by rw [hW1, World.cell?_alloc_past (w := w.drew) _ b j hbw]; exact h
  have hOv : ∀ j v, w.cell? ⟨vb, j, none⟩ = some v → W1.cell? ⟨vb, j, none⟩ = some v := fun j v h => by rw [hW1, World.cell?_alloc_past (w := w.drew) _ vb j hvw]; exact h
  have hcpA : ∀ (W : World), (∀ x, W.cell? x = W1.cell? x) → (∀ x, W.frozen? x = W1.frozen? x) → ∀ ty dc, (Builtin.copy_ #[55, 55] ty #[.slice (some ⟨w.heap.size, i * 4, none⟩) (n + m - i) dc, .slice (some ⟨vb, voff, none⟩) m vc]).run Try.prog W = .ok (goInt (Nat.min m (n + m - i))) (W.setCells w.heap.size (i * 4) vs) := fun W hWc hWf ty dc =>
    run_copy_cellsG W _ _ ty 60 w.heap.size (i * 4) (n + m - i) dc ⟨vb, voff, none⟩ m vc vs 4 Try.underlying55 hsz (by rw [hvl]; simp only [Nat.min_def]; split <;> omega)
      (fun j v hj => by rw [Addr.add_lit, hWc]; exact hOv _ v (hvs j v hj))
      (fun j hj => by rw [hWc]; exact hN _ (by omega)) (fun j hj => by rw [hWf]; exact hNf _) h1v
  have hG63 : G ≤ 9223372036854775807 := by
    have := hGm
    unfold maxLen at this
    omega
  have hGi : ¬ (G = i) := by omega
  have hGim : ¬ (G = i + m) := by omega
  have hci : ¬ (c = i) := by omega
  have hbN : b ≠ w.heap.size := by omega
  have hdl : (cs.drop (i * 4)).length = (n - i) * 4 := by rw [List.length_drop, hcl]; omega
  have hcpB : ∀ (W : World), (∀ x, W.cell? x = (W1.setCells w.heap.size (i * 4) vs).cell? x) → (∀ x, W.frozen? x = (W1.setCells w.heap.size (i * 4) vs).frozen? x) → ∀ ty dc sc, (Builtin.copy_ #[55, 55] ty #[.slice (some ⟨w.heap.size, (i + m) * 4, none⟩) (n + m - (i + m)) dc, .slice (some ⟨b, off + i * 4, none⟩) (n - i) sc]).run Try.prog W = .ok (goInt (Nat.min (n - i) (n + m - (i + m)))) (W.setCells w.heap.size ((i + m) * 4) (cs.drop (i * 4))) := fun W hWc hWf ty dc sc =>
    run_copy_cellsG W _ _ ty 60 w.heap.size ((i + m) * 4) (n + m - (i + m)) dc ⟨b, off + i * 4, none⟩ (n - i) sc (cs.drop (i * 4)) 4 Try.underlying55 hsz (by rw [hdl]; simp only [Nat.min_def]; split <;> omega)
      (fun j v hj => by
        rw [Addr.add_lit, hWc, World.cell?_setCells_out _ _ _ _ _ (fun h _ => absurd h hbN), Nat.add_assoc]
        exact hOb _ v (hcs (i * 4 + j) v (by rwa [List.getElem?_drop] at hj)))
      (fun j hj => by rw [hWc]; exact isSome_setCells _ _ _ _ (fun t ht => hN _ (by omega)) _ (hN _ (by omega)))
      (fun j hj => by rw [hWf, World.frozen?_setCells]; exact hNf _) (fun v hv => h1c v (List.mem_of_mem_drop hv))
  subst hW1
  have hE1 : ∀ x, ((w.alloc (.cells ROW 60)).drew).cell? x = (w.drew.alloc (.cells ROW 60)).cell? x := fun x => rfl
  have hE2 : ∀ x, ((w.alloc (.cells ROW 60)).drew).frozen? x = (w.drew.alloc (.cells ROW 60)).frozen? x := fun x => rfl
  have hF1 : ∀ x, (((w.alloc (.cells ROW 60)).drew.setCells w.heap.size (i * 4) vs).drew).cell? x = ((w.drew.alloc (.cells ROW 60)).setCells w.heap.size (i * 4) vs).cell? x := fun x => rfl
  have hF2 : ∀ x, (((w.alloc (.cells ROW 60)).drew.setCells w.heap.size (i * 4) vs).drew).frozen? x = ((w.drew.alloc (.cells ROW 60)).setCells w.heap.size (i * 4) vs).frozen? x := fun x => rfl
  have hw1 : IntKind.i64.wrap ((i : Int) + (m : Int)) = (i : Int) + (m : Int) := by rw [IntKind.wrap_i64]; omega
  have hb1 : (0 : Int) ≤ (i : Int) + (m : Int) := by omega
  have hin : i ≤ n := by omega
  have htn : ((i : Int) + (m : Int)).toNat = i + m := by omega
  have hb3 : (i : Int) ≤ (n : Int) := by omega
  refine Calls.mono (R := fun e w' => e = .returned (.slice (some ⟨w.heap.size, 0, none⟩) (n + m) G) ∧ w' = (((w.alloc (.cells ROW 60)).drew.setCells w.heap.size (i * 4) vs).drew).setCells w.heap.size ((i + m) * 4) (cs.drop (i * 4))) ?_ (fun e w' h => ⟨G, ROW, hGt, hGm, hRs, hRt, h.1, h.2⟩)
  clear hkk hik hold hROW hG hRl hRs hRt
  go_enter Try.func104, Try.ntmps104
  go_wp2_with (first
    | (at_builtin; refine Lib.wpList_append_run _ rfl _ _ _ _ rfl _ _ rfl rfl _ _ (hrz _) ?_)
    | (at_builtin; refine wpList_copy_runI _ rfl _ _ 55 55 rfl _ _ rfl rfl (hcpA _ hE1 hE2 _ _) ?_)
    | (at_builtin; refine wpList_copy_runI _ rfl _ _ 55 55 rfl _ _ rfl rfl (hcpB _ (fun _ => rfl) (fun _ => rfl) _ _ _) ?_))
  go_region_law_o (refine step_copy_runI rfl _ _ 55 55 rfl (.slice (some ⟨w.heap.size, (i + m) * 4, none⟩) (n + m - (i + m)) (G - (i + m))) (.slice (some ⟨b, off + i * 4, none⟩) (n - i) (c - i)) (by simp [Act.eval, Act.put]) (by simp [Act.eval, Act.put]) (hcpB _ hF1 hF2 3 (G - (i + m)) (c - i)) ?_)
  go_wp2
  go_ret
  exact ⟨rfl, rfl⟩

set_option maxHeartbeats 4000000 in
set_option maxRecDepth 100000 in
/-- at the end: the append -/
theorem insI_end (base n c vb : Nat) (A : Option Addr) (tv : TypeId) (xs : List Value) (a0 a1 a2 a3 : Value) (w : World) (hO : w.ownsRow base 60 4 (.slice A n c) n xs) (hn : n ≤ 16777216)
    (hv : w.heap[vb]? = some (.cells #[a0, a1, a2, a3] tv (0, 0))) (h1 : ∀ u ∈ [a0, a1, a2, a3], u.oneCell' = true) (hb : base ≤ w.heap.size) :
    Calls Try.prog 104 #[.slice A n c, .int .i64 n, .slice (some ⟨vb, 0, none⟩) 1 1] w fun e w' => ∃ A' c', e = .returned (.slice A' (n + 1) c') ∧
      w'.ownsRow base 60 4 (.slice A' (n + 1) c') (n + 1) (xs ++ [a0, a1, a2, a3]) ∧ w.grownBy w' (Value.slice A n c).ownBlock := by
  obtain ⟨i0, hi0, hz0, hzs, hzb⟩ := info_parts info_itemCells
  have mixed : Try.prog.follows Departure.mixedOrders = true := by kernel_rfl
  obtain ⟨hnc, hc63⟩ := own_capG hO
  have hR : Reads w (vb + 1) 4 (some ⟨vb, 0, none⟩) 1 [a0, a1, a2, a3] := ⟨rfl, fun _ => ⟨_, rfl, by show vb < vb + 1; omega, fun j v hj => by
    have hc := (blk_cells hv j).1
    rw [Addr.add_lit, Nat.zero_add, hc]
    simpa using hj⟩⟩
  go_enter Try.func104, Try.ntmps104
  rcases A with _ | ⟨ab, ao, asp⟩
  · have hn0 : n = 0 := by
      rcases hO.2 with ⟨hv0, h0⟩ | ⟨g', cap, cur, hv0, _⟩
      · exact h0
      · injection hv0 with e1; cases e1
    have hc0 : c = 0 := by
      rcases hO.2 with ⟨hv0, h0⟩ | ⟨g', cap, cur, hv0, _⟩
      · injection hv0 with _ _ e3
      · injection hv0 with e1; cases e1
    subst hn0 hc0
    go_wp2_with (at_builtin; refine wpList_append_any w rfl _ _ 55 rfl base 60 i0 _ 4 56 Try.underlying55 hi0 hz0 hzs hzb rfl (by omega) _ 0 _ rfl hO _ _ 1 1 _ rfl hR h1 (by unfold maxLen; omega) (by omega) hb ?_; intro v' w' h2 hg hv')
    go_ret
    obtain ⟨A', c', rfl⟩ := own_slice h2
    exact ⟨A', c', rfl, h2, hg⟩
  · go_wp2_with (at_builtin; refine wpList_append_any w rfl _ _ 55 rfl base 60 i0 _ 4 56 Try.underlying55 hi0 hz0 hzs hzb rfl (by omega) _ n _ rfl hO _ _ 1 1 _ rfl hR h1 (by unfold maxLen; omega) (by omega) hb ?_; intro v' w' h2 hg hv')
    all_goals (
      go_ret
      obtain ⟨A', c', rfl⟩ := own_slice h2
      exact ⟨A', c', rfl, h2, hg⟩)
theorem flat_ins (L : List RItem) (r : RItem) (i : Nat) (hi : i ≤ L.length) : (L.take i ++ r :: L.drop i).flatMap itemCells = (L.flatMap itemCells).take (i * 4) ++ (itemCells r ++ (L.flatMap itemCells).drop (i * 4)) := by
  rw [flat_take itemCells_len, flat_drop itemCells_len _ _ hi, List.flatMap_append, List.flatMap_cons]
theorem ins_item (base n c i vb : Nat) (A : Option Addr) (tv : TypeId) (L : List RItem) (r : RItem) (w : World) (hO : w.ownsRow base 60 4 (.slice A n c) n (L.flatMap itemCells)) (hn : n ≤ 16777215) (hi : i ≤ n)
    (hv : w.heap[vb]? = some (.cells #[.string r.x.nm, .int .i64 r.x.d, .int .i64 r.x.f, .slice r.A r.x.ss.length r.c] tv (0, 0))) (hne : (Value.slice A n c).ownBlock ≠ some vb) (hb : base ≤ w.heap.size) :
    Calls Try.prog 104 #[.slice A n c, .int .i64 i, .slice (some ⟨vb, 0, none⟩) 1 1] w fun e w' => ∃ A' c', e = .returned (.slice A' (n + 1) c') ∧
      w'.ownsRow base 60 4 (.slice A' (n + 1) c') (n + 1) ((L.take i ++ r :: L.drop i).flatMap itemCells) ∧ w.grownBy w' (Value.slice A n c).ownBlock := by
  have hxl : (L.flatMap itemCells).length = n * 4 := hO.1
  have hLl : L.length = n := by rw [flat_len itemCells_len] at hxl; omega
  have h1v : ∀ u ∈ ([.string r.x.nm, .int .i64 r.x.d, .int .i64 r.x.f, .slice r.A r.x.ss.length r.c] : List Value), u.oneCell' = true := itemCells_one1 r
  have h1c := itemCells_one L
  rw [flat_ins L r i (by omega)]
  show Calls _ _ _ _ (fun e w' => ∃ A' c', e = .returned (.slice A' (n + 1) c') ∧ w'.ownsRow base 60 4 (.slice A' (n + 1) c') (n + 1) ((L.flatMap itemCells).take (i * 4) ++ ([.string r.x.nm, .int .i64 r.x.d, .int .i64 r.x.f, .slice r.A r.x.ss.length r.c] ++ (L.flatMap itemCells).drop (i * 4))) ∧ w.grownBy w' (Value.slice A n c).ownBlock)
  generalize L.flatMap itemCells = xs at *
  by_cases hin : i = n
  · subst hin
    rw [List.take_of_length_le (by omega), List.drop_eq_nil_of_le (by omega), List.append_nil]
    exact insI_end base i c vb A tv xs _ _ _ _ w hO (by omega) hv h1v hb
  · obtain ⟨g, cap, hv0, hbg, hglt⟩ := hO.form (by omega)
    have hA : A = some ⟨g, 0, none⟩ := by injection hv0
    subst hA
    clear hv0
    obtain ⟨cur, hblk, hcs, hcm, _⟩ := own_block hO
    obtain ⟨hnc, hc63⟩ := own_capG hO
    have hvlt := blk_lt hv
    have hob : (Value.slice (some ⟨g, 0, none⟩) n c).ownBlock = some g := rfl
    rw [hob] at hne ⊢
    have hne' : vb ≠ g := fun h => hne (by rw [h])
    have hcell : ∀ j v, xs[j]? = some v → w.cell? ⟨g, 0 + j, none⟩ = some v := by
      intro j v hj
      have hjl : j < n * 4 := by have := (List.getElem?_eq_some_iff.1 hj).1; omega
      rw [Nat.zero_add, hO.cellAt j (by omega)]
      exact hj
    have hvs : ∀ j v, ([.string r.x.nm, .int .i64 r.x.d, .int .i64 r.x.f, .slice r.A r.x.ss.length r.c] : List Value)[j]? = some v → w.cell? ⟨vb, 0 + j, none⟩ = some v := by
      intro j v hj
      rw [Nat.zero_add, (blk_cells hv j).1]
      simpa using hj
    by_cases hroom : n + 1 ≤ c
    · obtain ⟨ys, hyl, hyt, hOy⟩ := own_room hO hroom
      have hsp : ∀ j, j < (n + 1) * 4 → (w.cell? ⟨g, 0 + j, none⟩).isSome = true := by
        intro j hj
        rw [Nat.zero_add, hOy.cellAt j (by omega), List.getElem?_eq_getElem (by omega)]; rfl
      refine (insI_shift g 0 n c i vb 0 1 1 xs _ w (by omega) (by omega) hroom (by omega) hne' hxl rfl hcell hsp (fun j _ => hO.frozenAt _) hvs h1c h1v tv 60 4 cur.size (shape_of hv) (shape_of hblk) (by omega) (blk_cells hv 0).2 (blk_cells hv 4).2).mono ?_
      rintro e w' ⟨rfl, rfl⟩
      have hdl : (xs.drop (i * 4)).length = (n - i) * 4 := by rw [List.length_drop, hxl]; omega
      have h := own_setCellsG (xs.drop (i * 4)) (0 + (i + 1) * 4) w.drew ys hOy.drew (by omega)
      have k := own_setCellsG [.string r.x.nm, .int .i64 r.x.d, .int .i64 r.x.f, .slice r.A r.x.ss.length r.c] (0 + i * 4) _ _ h.1 (by simp; omega)
      refine ⟨_, c, rfl, ?_, only_trans (only_trans (grown_drewN w 1 _) h.2) k.2⟩
      have hk := k.1
      have hy := lay_shift (size := 4) (ys := ys) (cs := xs) (vs := [.string r.x.nm, .int .i64 r.x.d, .int .i64 r.x.f, .slice r.A r.x.ss.length r.c]) (i := i) (n := n) (by omega) hyt (by omega) rfl
      simp only [Nat.zero_add] at hk ⊢
      rw [hy] at hk
      exact hk
    · refine (insI_grow g 0 n c i vb 0 1 1 xs _ w (by omega) (by omega) hnc (by omega) (by omega) hxl rfl hcell hvs h1c h1v).mono ?_
      rintro e w' ⟨G, ROW, hG1, hG2, hRs, hRt, rfl, rfl⟩
      have h0 : (w.alloc (.cells ROW 60)).drew.ownsRow base 60 4 (.slice (some ⟨w.heap.size, 0, none⟩) (n + 1) G) (n + 1) (ROW.toList.take ((n + 1) * 4)) :=
        (own_new (w := w) hb hG1 hG2 hRs (by rw [List.length_take, Array.length_toList, hRs]; omega) rfl).drew
      have h := own_setCellsG [.string r.x.nm, .int .i64 r.x.d, .int .i64 r.x.f, .slice r.A r.x.ss.length r.c] (i * 4) _ _ h0 (by simp; omega)
      have k := own_setCellsG (xs.drop (i * 4)) ((i + 1) * 4) _ _ h.1.drew (by rw [List.length_drop]; omega)
      refine ⟨_, G, rfl, ?_, ?_⟩
      · have hk := k.1
        refine cast (congrArg _ ?_) hk
        have hz : (ROW.toList.take ((n + 1) * 4)).length = (n + 1) * 4 := by rw [List.length_take, Array.length_toList, hRs]; omega
        generalize hQ : ROW.toList.take ((n + 1) * 4) = Q at *
        have hQi : Q.take (i * 4) = xs.take (i * 4) := by rw [← hQ, List.take_take, Nat.min_eq_left (by omega), hRt]
        have hil : (Q.take (i * 4)).length = i * 4 := by rw [List.length_take]; omega
        generalize hV : ([.string r.x.nm, .int .i64 r.x.d, .int .i64 r.x.f, .slice r.A r.x.ss.length r.c] : List Value) = V at *
        have hVl : V.length = 4 := by rw [← hV]; rfl
        have e1 : (Q.take (i * 4) ++ (V ++ Q.drop (i * 4 + V.length))).take ((i + 1) * 4) = xs.take (i * 4) ++ V := by
          rw [← List.append_assoc, List.take_append_of_le_length (by rw [List.length_append, hil, hVl]; omega), List.take_of_length_le (by rw [List.length_append, hil, hVl]; omega), hQi]
        have e2 : (Q.take (i * 4) ++ (V ++ Q.drop (i * 4 + V.length))).drop ((i + 1) * 4 + (xs.drop (i * 4)).length) = [] := List.drop_eq_nil_of_le (by simp only [List.length_append, List.length_drop, hil, hxl, hz, hVl]; omega)
        rw [e1, e2]
        simp
      · refine grown_of_below ?_ _
        have hB : Below w.heap.size w (w.alloc (.cells ROW 60)).drew := (Below.alloc (Below.refl _ _) (Nat.le_refl _) _).drew
        exact (bel_setCells (Nat.le_refl _) _ _ _ (bel_setCells (Nat.le_refl _) _ _ _ hB).drew)
end Go.Proofs.Ytmmohnbmoilaaaa
