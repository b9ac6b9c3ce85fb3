/- rows of Act in the laws -/
import Derived.Test.YtmnlinclbnbpoaaDoorRowsA
import Derived.Test.YtmnlinclbnbpoaaDoorAct1
namespace Go.Proofs.YtmnlinclbnbpoaaDoor
open Go.ChangeShapes Go.WideShapes Go.ChangeAt Go.RowKit
set_option linter.unusedVariables false
set_option maxRecDepth 10000
theorem info_actCells : (Tryd.prog.info? 26).map (fun i => (i.zero, i.size, i.bytes)) = some (some (.agg #[.int .i64 0, .int .i64 0, .int .i64 0]), 3, 24) := by kernel_rfl
set_option maxHeartbeats 1600000 in
theorem l_eqAct_same (k a b : Int) (w : World) : Calls Tryd.prog 16 #[.agg #[.int .i64 k, .int .i64 a, .int .i64 b], .agg #[.int .i64 k, .int .i64 a, .int .i64 b]] w fun e w' => e = .returned (.bool true) ∧ Below w.heap.size w w' := by
  go_enter Tryd.func16, Tryd.ntmps16
  go_wp2
  go_ret
  exact ⟨rfl, bel⟩
def FreshActs (base : Nat) (l : List PAct) (w : World) (e : Ending) (w' : World) : Prop :=
  ∃ A c, e = .returned (.slice A l.length c) ∧ w'.ownsRow base 26 3 (.slice A l.length c) l.length (l.flatMap actCells) ∧ Below w.heap.size w w'
set_option maxHeartbeats 1600000 in
theorem l_toActS (B : Nat) (A : Option Addr) (n c : Nat) (l : List PAct) (w : World) (hS : Acts w B A n l) (hB : B ≤ w.heap.size) :
    Calls Tryd.prog 11 #[.slice A n c] w (FreshActs w.heap.size l w) := by
  have hn := hS.nb
  have hl := hS.len
  have HL := Lib.hid hl
  clear hl
  obtain ⟨i0, hi0, hz0, hz1, hz2⟩ := info_parts info_actCells
  have hmk := run_make_rowN (P := Tryd.prog) 32 26 i0 _ Tryd.underlying32 hi0 hz0 .i64 .i64 n n (Nat.le_refl _) (by rw [hz2]; omega) (by omega) w
  rw [hz1] at hmk
  go_enter Tryd.func11, Tryd.ntmps11
  go_wp2
  go_loopw [4] (fun i wr => ∃ j : Nat, j ≤ n ∧ i = .int .i64 j ∧ wr.ownsRow w.heap.size 26 3 (.slice (some ⟨w.heap.size, 0, none⟩) n n) n ((l.take j).flatMap actCells ++ reps [.int .i64 0, .int .i64 0, .int .i64 0] (n - j)) ∧ Below w.heap.size w wr) (fun i _ => n - (intOf i).toNat)
  case atStart =>
    refine ⟨0, Nat.zero_le _, rfl, ?_, bel⟩
    have h := World.ownsRow_lit (w := w) (base := w.heap.size) (e := 26) (size := 3) (madeCells #[Value.int .i64 0, .int .i64 0, .int .i64 0] (n * 3)) n (Nat.le_refl _) (by unfold maxLen; omega) (by simp [madeCells])
    have hm := made_reps [Value.int .i64 0, .int .i64 0, .int .i64 0] n (by simp)
    rw [show (madeCells #[Value.int .i64 0, .int .i64 0, .int .i64 0] (n * 3)).toList = reps [Value.int .i64 0, .int .i64 0, .int .i64 0] n from hm] at h
    simpa using h
  case round =>
    obtain ⟨j, hj, rfl, hown, hb⟩ := hrel
    by_cases hlt : j < n
    · obtain ⟨hk1, ad, rfl, hab, hc0, hc1, hc2⟩ := (hS.below (hb.mono hB)).at_ hlt
      have hjn : j * 3 + 3 ≤ n * 3 := by omega
      go_wp2_with (go_at_call 7; refine (l_toAct _ _ _ _).mono ?_; rintro e w1 ⟨rfl, hb1⟩; have ho1 := own_below hown hb1; obtain ⟨u0, hu0⟩ := own_cellk ho1 (j * 3) (by omega); have hf0 := ho1.frozenAt (j * 3); obtain ⟨u1, hu1⟩ := own_cellk ho1 (j * 3 + 1) (by omega); have hf1 := ho1.frozenAt (j * 3 + 1); obtain ⟨u2, hu2⟩ := own_cellk ho1 (j * 3 + 2) (by omega); have hf2 := ho1.frozenAt (j * 3 + 2))
      go_roundw
      case rel =>
        have hst0 := ho1.stored (j * 3) (.int .i64 l[j].k)
        have hst1 := hst0.1.stored (j * 3 + 1) (.int .i64 l[j].a)
        have hst2 := hst1.1.stored (j * 3 + 2) (.int .i64 l[j].b)
        have hgr := only_trans ( only_trans (hst0.2) hst1.2) hst2.2
        refine ⟨j + 1, by omega, by go_num, ?_, only_below_B (hb.trans (hb1.mono hb.size)) hgr⟩
        have ho2 := hst2.1
        have hA : ((l.take j).flatMap actCells).length = j * 3 := by rw [flat_len actCells_len, List.length_take, Nat.min_eq_left (by omega)]
        have hR : reps [.int .i64 0, .int .i64 0, .int .i64 0] (n - j) = [.int .i64 0, .int .i64 0, .int .i64 0] ++ reps [.int .i64 0, .int .i64 0, .int .i64 0] (n - (j + 1)) := by rw [show n - j = (n - (j + 1)) + 1 from by omega, reps_succ]
        rw [hR, set3 _ _ (j * 3) hA, ← List.append_assoc] at ho2
        have hT : (l.take (j + 1)).flatMap actCells = (l.take j).flatMap actCells ++ [.int .i64 l[j].k, .int .i64 l[j].a, .int .i64 l[j].b] := by rw [List.take_succ_eq_append_getElem hk1, flat_snoc]; rfl
        rw [hT]; exact ho2
      case measure => simp [intOf]; omega
    · have hjn : j = n := by omega
      subst hjn
      have hE : (l.take j).flatMap actCells ++ reps [.int .i64 0, .int .i64 0, .int .i64 0] (j - j) = l.flatMap actCells := by
        rw [List.take_of_length_le (by have := HL.out; omega)]; simp [reps]
      rw [hE] at hown
      clear hE
      have HO := hide hown
      clear hown
      go_wp2
      go_ret
      have hl := HL.out
      subst hl
      exact ⟨_, _, rfl, unhide HO, hb⟩
set_option maxHeartbeats 1600000 in
theorem l_eqActS_same (B : Nat) (A1 A2 : Option Addr) (n c1 c2 : Nat) (l : List PAct) (w : World) (h1 : Acts w B A1 n l) (h2 : Acts w B A2 n l) (hB : B ≤ w.heap.size) :
    Calls Tryd.prog 13 #[.slice A1 n c1, .slice A2 n c2] w fun e w' => e = .returned (.bool true) ∧ Below w.heap.size w w' := by
  have hn := h1.nb
  go_enter Tryd.func13, Tryd.ntmps13
  go_wp2
  go_loopw [5] (fun i wr => ∃ j : Nat, j ≤ n ∧ i = .int .i64 j ∧ Below w.heap.size w wr) (fun i _ => n - (intOf i).toNat)
  case atStart => exact ⟨0, Nat.zero_le _, rfl, Below.refl _ _⟩
  case round =>
    obtain ⟨j, hj, rfl, hb⟩ := hrel
    have hzr := hb.size
    by_cases hlt : j < n
    · obtain ⟨hk1, ad1, rfl, hab1, ha0, ha1, ha2⟩ := (h1.below (hb.mono hB)).at_ hlt
      obtain ⟨hk2, ad2, rfl, hab2, hc0, hc1, hc2⟩ := (h2.below (hb.mono hB)).at_ hlt
      have hq1 : (ad1.add (j * 3)).block < wr.heap.size := by rw [block_of_add]; omega
      have hq2 : (ad2.add (j * 3)).block < wr.heap.size := by rw [block_of_add]; omega
      go_wp2
      go_region_held3 (fun W => (∀ p : Addr, p.block < wr.heap.size → W.cell? p = (wr).cell? p) ∧ (∀ p : Addr, p.block < wr.heap.size → W.frozen? p = (wr).frozen? p) ∧ Below (wr.heap.size) (wr) W) (exact keep_ofP bel) ((go_at_call 16; refine (l_eqAct_same _ _ _ _).mono ?_; rintro e w3 ⟨rfl, hb3⟩))
      have hb3' : Below wr.heap.size wr w3 := (Below.refl _ _).drew.trans hb3
      go_wp2
      go_roundw
      case rel => exact ⟨j + 1, by omega, by go_num, hb.trans (hb3'.mono hzr)⟩
      case measure => simp [intOf]; omega
    · go_wp2
      go_ret
      exact ⟨rfl, hb⟩
def mkAct (k : Int) : List Value := [.int .i64 (k), .int .i64 (k + 1), .int .i64 (k + 1 + 1)]
theorem mkAct_len (k : Int) : (mkAct k).length = 3 := rfl
def marksAct (k : Int) (n : Nat) : List Value := (List.range n).flatMap fun (i : Nat) => mkAct (k + 3 * (i : Int))
theorem marksAct_len (k : Int) (n : Nat) : (marksAct k n).length = n * 3 := by unfold marksAct; rw [flat_len (fun (i : Nat) => mkAct_len _)]; simp
theorem marksAct_succ (k : Int) (n : Nat) : marksAct k (n + 1) = marksAct k n ++ mkAct (k + 3 * (n : Int)) := by unfold marksAct; rw [List.range_succ, flat_snoc]
theorem marksAct_get (k : Int) (n i j : Nat) (hi : i < n) (hj : j < 3) : (marksAct k n)[i * 3 + j]? = (mkAct (k + 3 * (i : Int)))[j]? := by
  unfold marksAct
  rw [flat_get (fun (i : Nat) => mkAct_len _) _ i j (by simpa using hi) hj]; simp
theorem drop_rowAct (xs : List Value) (n j : Nat) (hx : xs.length = n * 3) (hj : j < n) : ∃ z0 z1 z2 : Value, xs.drop (j * 3) = [z0, z1, z2] ++ xs.drop ((j + 1) * 3) := by
  have hlt : j * 3 + 3 ≤ xs.length := by rw [hx]; omega
  refine ⟨xs[j * 3], xs[j * 3 + 1], xs[j * 3 + 2], ?_⟩
  rw [show (j + 1) * 3 = j * 3 + 3 by omega]
  rw [List.drop_eq_getElem_cons (show j * 3 < xs.length by omega), List.drop_eq_getElem_cons (show j * 3 + 1 < xs.length by omega), List.drop_eq_getElem_cons (show j * 3 + 2 < xs.length by omega)]
  rfl
end Go.Proofs.YtmnlinclbnbpoaaDoor
