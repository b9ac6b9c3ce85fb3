/- rows of Step in the laws -/
import Derived.Test.YtdddglihomchfaaGreatRows1
import Derived.Test.YtdddglihomchfaaGreatLawStep
import Derived.Test.YtdddglihomchfaaGreatRowBox
namespace Go.Proofs.YtdddglihomchfaaGreat
open Go.ChangeShapes Go.WideShapes Go.ChangeAt Go.RowKit
set_option linter.unusedVariables false
set_option maxRecDepth 10000
theorem info_stepCells : (Tryz.prog.info? 65).map (fun i => (i.zero, i.size, i.bytes)) = some (some (.agg #[.int .i64 0, .int .i64 0, .int .i64 0, .int .i64 0, .int .i64 0, .string ByteArray.empty, .string ByteArray.empty]), 7, 72) := by kernel_rfl
set_option maxHeartbeats 1600000 in
theorem l_eqStep_same (K F L T I : Int) (b a : ByteArray) (w : World) : Calls Tryz.prog 173 #[.agg #[.int .i64 K, .int .i64 F, .int .i64 L, .int .i64 T, .int .i64 I, .string b, .string a], .agg #[.int .i64 K, .int .i64 F, .int .i64 L, .int .i64 T, .int .i64 I, .string b, .string a]] w fun e w' => e = .returned (.bool true) ∧ Below w.heap.size w w' := by
  have hbq_b := beq_toList_true (rfl : b = b)
  have hbq_a := beq_toList_true (rfl : a = a)
  go_enter Tryz.func173, Tryz.ntmps173
  go_wp2_with (go_at_call 195; refine (l_eqBox_same _ _ _ _).mono ?_; rintro e w1 ⟨rfl, hb1⟩; obtain ⟨hcb, hfb⟩ := bcell hb1; have hz_w1_0 : w.heap.size < w1.heap.size := (by have hzz := hb1.size; (try simp at hzz); omega); have hy_w1_0 := Nat.le_of_lt hz_w1_0; have hz_w1_1 : w.heap.size + 1 < w1.heap.size := (by have hzz := hb1.size; (try simp at hzz); omega); have hy_w1_1 := Nat.le_of_lt hz_w1_1)
  go_ret
  exact ⟨rfl, (by repeat (first | (with_reducible exact Below.refl _ _) | (with_reducible assumption) | (with_reducible exact (‹_ ∧ _ ∧ Below _ _ _›).2.2) | (with_reducible refine below_drewN ?_ _) | (with_reducible refine Below.drew ?_) | ((with_reducible refine Below.alloc ?_ ?hsd _); (case hsd => (first | exact Nat.le_refl _ | (simp; done) | omega | (simp; omega) | exact (‹_ ∧ _ ∧ Below _ _ _›).2.2.size))) | ((with_reducible refine Below.setCell ?_ ?hsd _); (case hsd => (first | exact Nat.le_refl _ | (simp; done) | omega | (simp; omega) | exact (‹_ ∧ _ ∧ Below _ _ _›).2.2.size))) | ((with_reducible refine Below.trans ?_ (Below.mono (by with_reducible assumption) ?hsd)); (case hsd => (first | exact Nat.le_refl _ | (simp; done) | omega | (simp; omega) | exact (‹_ ∧ _ ∧ Below _ _ _›).2.2.size))) | exact Below.refl _ _ | assumption | exact (‹_ ∧ _ ∧ Below _ _ _›).2.2 | refine below_drewN ?_ _ | refine Below.drew ?_ | refine Below.alloc ?_ (by first | exact Nat.le_refl _ | (simp; done) | omega | (simp; omega) | exact (‹_ ∧ _ ∧ Below _ _ _›).2.2.size) _ | refine Below.setCell ?_ (by first | exact Nat.le_refl _ | (simp; done) | omega | (simp; omega) | exact (‹_ ∧ _ ∧ Below _ _ _›).2.2.size) _ | refine Below.trans ?_ (Below.mono (by assumption) (by first | exact Nat.le_refl _ | (simp; done) | omega | (simp; omega) | exact (‹_ ∧ _ ∧ Below _ _ _›).2.2.size))))⟩
def FreshSteps (base : Nat) (l : List PStep) (w : World) (e : Ending) (w' : World) : Prop :=
  ∃ A c, e = .returned (.slice A l.length c) ∧ w'.ownsRow base 65 7 (.slice A l.length c) l.length (l.flatMap stepCells) ∧ Below w.heap.size w w'
set_option maxHeartbeats 1600000 in
theorem l_toStepS (B : Nat) (A : Option Addr) (n c : Nat) (l : List PStep) (w : World) (hS : Steps w B A n l) (hB : B ≤ w.heap.size) :
    Calls Tryz.prog 123 #[.slice A n c] w (FreshSteps w.heap.size l w) := by
  have hn := hS.nb
  have hl := hS.len
  have HL := Lib.hid hl
  clear hl
  obtain ⟨i0, hi0, hz0, hz1, hz2⟩ := info_parts info_stepCells
  have hmk := run_make_rowN (P := Tryz.prog) 35 65 i0 _ Tryz.underlying35 hi0 hz0 .i64 .i64 n n (Nat.le_refl _) (by rw [hz2]; omega) (by omega) w
  rw [hz1] at hmk
  go_enter Tryz.func123, Tryz.ntmps123
  go_wp2
  go_loopw [4] (fun i wr => ∃ j : Nat, j ≤ n ∧ i = .int .i64 j ∧ wr.ownsRow w.heap.size 65 7 (.slice (some ⟨w.heap.size, 0, none⟩) n n) n ((l.take j).flatMap stepCells ++ reps [.int .i64 0, .int .i64 0, .int .i64 0, .int .i64 0, .int .i64 0, .string ByteArray.empty, .string ByteArray.empty] (n - j)) ∧ Below w.heap.size w wr) (fun i _ => n - (intOf i).toNat)
  case atStart =>
    refine ⟨0, Nat.zero_le _, rfl, ?_, (by repeat (first | (with_reducible exact Below.refl _ _) | (with_reducible assumption) | (with_reducible exact (‹_ ∧ _ ∧ Below _ _ _›).2.2) | (with_reducible refine below_drewN ?_ _) | (with_reducible refine Below.drew ?_) | ((with_reducible refine Below.alloc ?_ ?hsd _); (case hsd => (first | exact Nat.le_refl _ | (simp; done) | omega | (simp; omega) | exact (‹_ ∧ _ ∧ Below _ _ _›).2.2.size))) | ((with_reducible refine Below.setCell ?_ ?hsd _); (case hsd => (first | exact Nat.le_refl _ | (simp; done) | omega | (simp; omega) | exact (‹_ ∧ _ ∧ Below _ _ _›).2.2.size))) | ((with_reducible refine Below.trans ?_ (Below.mono (by with_reducible assumption) ?hsd)); (case hsd => (first | exact Nat.le_refl _ | (simp; done) | omega | (simp; omega) | exact (‹_ ∧ _ ∧ Below _ _ _›).2.2.size))) | exact Below.refl _ _ | assumption | exact (‹_ ∧ _ ∧ Below _ _ _›).2.2 | refine below_drewN ?_ _ | refine Below.drew ?_ | refine Below.alloc ?_ (by first | exact Nat.le_refl _ | (simp; done) | omega | (simp; omega) | exact (‹_ ∧ _ ∧ Below _ _ _›).2.2.size) _ | refine Below.setCell ?_ (by first | exact Nat.le_refl _ | (simp; done) | omega | (simp; omega) | exact (‹_ ∧ _ ∧ Below _ _ _›).2.2.size) _ | refine Below.trans ?_ (Below.mono (by assumption) (by first | exact Nat.le_refl _ | (simp; done) | omega | (simp; omega) | exact (‹_ ∧ _ ∧ Below _ _ _›).2.2.size))))⟩
    have h := World.ownsRow_lit (w := w) (base := w.heap.size) (e := 65) (size := 7) (madeCells #[Value.int .i64 0, .int .i64 0, .int .i64 0, .int .i64 0, .int .i64 0, .string ByteArray.empty, .string ByteArray.empty] (n * 7)) n (Nat.le_refl _) (by unfold maxLen; omega) (by simp [madeCells])
    have hm := made_reps [Value.int .i64 0, .int .i64 0, .int .i64 0, .int .i64 0, .int .i64 0, .string ByteArray.empty, .string ByteArray.empty] n (by simp)
    rw [show (madeCells #[Value.int .i64 0, .int .i64 0, .int .i64 0, .int .i64 0, .int .i64 0, .string ByteArray.empty, .string ByteArray.empty] (n * 7)).toList = reps [Value.int .i64 0, .int .i64 0, .int .i64 0, .int .i64 0, .int .i64 0, .string ByteArray.empty, .string ByteArray.empty] n from hm] at h
    simpa using h
  case round =>
    obtain ⟨j, hj, rfl, hown, hb⟩ := hrel
    by_cases hlt : j < n
    · obtain ⟨hk1, ad, rfl, hab, hc0, hc1, hc2, hc3, hc4, hc5, hc6, hsb, hsa⟩ := (hS.below (hb.mono hB)).at_ hlt
      have hjn : j * 7 + 7 ≤ n * 7 := by omega
      go_wp2_with (go_at_call 34; refine (l_toStep _ _ _ _ _ _ _ _).mono ?_; rintro e w1 ⟨rfl, hb1⟩; have ho1 := own_below hown hb1; obtain ⟨u0, hu0⟩ := own_cellk ho1 (j * 7) (by omega); have hf0 := ho1.frozenAt (j * 7); obtain ⟨u1, hu1⟩ := own_cellk ho1 (j * 7 + 1) (by omega); have hf1 := ho1.frozenAt (j * 7 + 1); obtain ⟨u2, hu2⟩ := own_cellk ho1 (j * 7 + 2) (by omega); have hf2 := ho1.frozenAt (j * 7 + 2); obtain ⟨u3, hu3⟩ := own_cellk ho1 (j * 7 + 3) (by omega); have hf3 := ho1.frozenAt (j * 7 + 3); obtain ⟨u4, hu4⟩ := own_cellk ho1 (j * 7 + 4) (by omega); have hf4 := ho1.frozenAt (j * 7 + 4); obtain ⟨u5, hu5⟩ := own_cellk ho1 (j * 7 + 5) (by omega); have hf5 := ho1.frozenAt (j * 7 + 5); obtain ⟨u6, hu6⟩ := own_cellk ho1 (j * 7 + 6) (by omega); have hf6 := ho1.frozenAt (j * 7 + 6))
      go_roundw
      case rel =>
        have hst0 := ho1.stored (j * 7) (.int .i64 l[j].K)
        have hst1 := hst0.1.stored (j * 7 + 1) (.int .i64 l[j].F)
        have hst2 := hst1.1.stored (j * 7 + 2) (.int .i64 l[j].L)
        have hst3 := hst2.1.stored (j * 7 + 3) (.int .i64 l[j].T)
        have hst4 := hst3.1.stored (j * 7 + 4) (.int .i64 l[j].I)
        have hst5 := hst4.1.stored (j * 7 + 5) (.string l[j].b)
        have hst6 := hst5.1.stored (j * 7 + 6) (.string l[j].a)
        have hgr := only_trans ( only_trans ( only_trans ( only_trans ( only_trans ( only_trans (hst0.2) hst1.2) hst2.2) hst3.2) hst4.2) hst5.2) hst6.2
        refine ⟨j + 1, by omega, by go_num, ?_, only_below_B (hb.trans (hb1.mono hb.size)) hgr⟩
        have ho2 := hst6.1
        have hA : ((l.take j).flatMap stepCells).length = j * 7 := by rw [flat_len stepCells_len, List.length_take, Nat.min_eq_left (by omega)]
        have hR : reps [.int .i64 0, .int .i64 0, .int .i64 0, .int .i64 0, .int .i64 0, .string ByteArray.empty, .string ByteArray.empty] (n - j) = [.int .i64 0, .int .i64 0, .int .i64 0, .int .i64 0, .int .i64 0, .string ByteArray.empty, .string ByteArray.empty] ++ reps [.int .i64 0, .int .i64 0, .int .i64 0, .int .i64 0, .int .i64 0, .string ByteArray.empty, .string ByteArray.empty] (n - (j + 1)) := by rw [show n - j = (n - (j + 1)) + 1 from by omega, reps_succ]
        rw [hR, set7 _ _ (j * 7) hA, ← List.append_assoc] at ho2
        have hT : (l.take (j + 1)).flatMap stepCells = (l.take j).flatMap stepCells ++ [.int .i64 l[j].K, .int .i64 l[j].F, .int .i64 l[j].L, .int .i64 l[j].T, .int .i64 l[j].I, .string l[j].b, .string l[j].a] := by rw [List.take_succ_eq_append_getElem hk1, flat_snoc]; rfl
        rw [hT]; exact ho2
      case measure => simp [intOf]; omega
    · have hjn : j = n := by omega
      subst hjn
      have hE : (l.take j).flatMap stepCells ++ reps [.int .i64 0, .int .i64 0, .int .i64 0, .int .i64 0, .int .i64 0, .string ByteArray.empty, .string ByteArray.empty] (j - j) = l.flatMap stepCells := by
        rw [List.take_of_length_le (by have := HL.out; omega)]; simp [reps]
      rw [hE] at hown
      clear hE
      have HO := hide hown
      clear hown
      go_wp2
      go_ret
      have hl := HL.out
      subst hl
      exact ⟨_, _, rfl, unhide HO, hb⟩
set_option maxHeartbeats 1600000 in
theorem l_eqStepS_same (B : Nat) (A1 A2 : Option Addr) (n c1 c2 : Nat) (l : List PStep) (w : World) (h1 : Steps w B A1 n l) (h2 : Steps w B A2 n l) (hB : B ≤ w.heap.size) :
    Calls Tryz.prog 133 #[.slice A1 n c1, .slice A2 n c2] w fun e w' => e = .returned (.bool true) ∧ Below w.heap.size w w' := by
  have hn := h1.nb
  go_enter Tryz.func133, Tryz.ntmps133
  go_wp2
  go_loopw [5] (fun i wr => ∃ j : Nat, j ≤ n ∧ i = .int .i64 j ∧ Below w.heap.size w wr) (fun i _ => n - (intOf i).toNat)
  case atStart => exact ⟨0, Nat.zero_le _, rfl, Below.refl _ _⟩
  case round =>
    obtain ⟨j, hj, rfl, hb⟩ := hrel
    have hzr := hb.size
    by_cases hlt : j < n
    · obtain ⟨hk1, ad1, rfl, hab1, ha0, ha1, ha2, ha3, ha4, ha5, ha6, hsab, hsaa⟩ := (h1.below (hb.mono hB)).at_ hlt
      obtain ⟨hk2, ad2, rfl, hab2, hc0, hc1, hc2, hc3, hc4, hc5, hc6, hscb, hsca⟩ := (h2.below (hb.mono hB)).at_ hlt
      have hq1 : (ad1.add (j * 7)).block < wr.heap.size := by rw [block_of_add]; omega
      have hq2 : (ad2.add (j * 7)).block < wr.heap.size := by rw [block_of_add]; omega
      go_wp2
      go_region_held3 (fun W => (∀ p : Addr, p.block < wr.heap.size → W.cell? p = (wr).cell? p) ∧ (∀ p : Addr, p.block < wr.heap.size → W.frozen? p = (wr).frozen? p) ∧ Below (wr.heap.size) (wr) W) (exact keep_ofP (by repeat (first | (with_reducible exact Below.refl _ _) | (with_reducible assumption) | (with_reducible exact (‹_ ∧ _ ∧ Below _ _ _›).2.2) | (with_reducible refine below_drewN ?_ _) | (with_reducible refine Below.drew ?_) | ((with_reducible refine Below.alloc ?_ ?hsd _); (case hsd => (first | exact Nat.le_refl _ | (simp; done) | omega | (simp; omega) | exact (‹_ ∧ _ ∧ Below _ _ _›).2.2.size))) | ((with_reducible refine Below.setCell ?_ ?hsd _); (case hsd => (first | exact Nat.le_refl _ | (simp; done) | omega | (simp; omega) | exact (‹_ ∧ _ ∧ Below _ _ _›).2.2.size))) | ((with_reducible refine Below.trans ?_ (Below.mono (by with_reducible assumption) ?hsd)); (case hsd => (first | exact Nat.le_refl _ | (simp; done) | omega | (simp; omega) | exact (‹_ ∧ _ ∧ Below _ _ _›).2.2.size))) | exact Below.refl _ _ | assumption | exact (‹_ ∧ _ ∧ Below _ _ _›).2.2 | refine below_drewN ?_ _ | refine Below.drew ?_ | refine Below.alloc ?_ (by first | exact Nat.le_refl _ | (simp; done) | omega | (simp; omega) | exact (‹_ ∧ _ ∧ Below _ _ _›).2.2.size) _ | refine Below.setCell ?_ (by first | exact Nat.le_refl _ | (simp; done) | omega | (simp; omega) | exact (‹_ ∧ _ ∧ Below _ _ _›).2.2.size) _ | refine Below.trans ?_ (Below.mono (by assumption) (by first | exact Nat.le_refl _ | (simp; done) | omega | (simp; omega) | exact (‹_ ∧ _ ∧ Below _ _ _›).2.2.size))))) ((go_at_call 173; refine (l_eqStep_same _ _ _ _ _ _ _ _).mono ?_; rintro e w3 ⟨rfl, hb3⟩))
      have hb3' : Below wr.heap.size wr w3 := (Below.refl _ _).drew.trans hb3
      go_wp2
      go_roundw
      case rel => exact ⟨j + 1, by omega, by go_num, hb.trans (hb3'.mono hzr)⟩
      case measure => simp [intOf]; omega
    · go_wp2
      go_ret
      exact ⟨rfl, hb⟩
def mkStep (k : Int) : List Value := [.int .i64 (k), .int .i64 (k + 1), .int .i64 (k + 1 + 1), .int .i64 (k + 1 + 1 + 1), .int .i64 (k + 1 + 1 + 1 + 1), .string (markT (k + 1 + 1 + 1 + 1 + 1)), .string (markT (k + 1 + 1 + 1 + 1 + 1 + 1))]
theorem mkStep_len (k : Int) : (mkStep k).length = 7 := rfl
def marksStep (k : Int) (n : Nat) : List Value := (List.range n).flatMap fun (i : Nat) => mkStep (k + 7 * (i : Int))
theorem marksStep_len (k : Int) (n : Nat) : (marksStep k n).length = n * 7 := by unfold marksStep; rw [flat_len (fun (i : Nat) => mkStep_len _)]; simp
theorem marksStep_succ (k : Int) (n : Nat) : marksStep k (n + 1) = marksStep k n ++ mkStep (k + 7 * (n : Int)) := by unfold marksStep; rw [List.range_succ, flat_snoc]
theorem marksStep_get (k : Int) (n i j : Nat) (hi : i < n) (hj : j < 7) : (marksStep k n)[i * 7 + j]? = (mkStep (k + 7 * (i : Int)))[j]? := by
  unfold marksStep
  rw [flat_get (fun (i : Nat) => mkStep_len _) _ i j (by simpa using hi) hj]; simp
theorem drop_rowStep (xs : List Value) (n j : Nat) (hx : xs.length = n * 7) (hj : j < n) : ∃ z0 z1 z2 z3 z4 z5 z6 : Value, xs.drop (j * 7) = [z0, z1, z2, z3, z4, z5, z6] ++ xs.drop ((j + 1) * 7) := by
  have hlt : j * 7 + 7 ≤ xs.length := by rw [hx]; omega
  refine ⟨xs[j * 7], xs[j * 7 + 1], xs[j * 7 + 2], xs[j * 7 + 3], xs[j * 7 + 4], xs[j * 7 + 5], xs[j * 7 + 6], ?_⟩
  rw [show (j + 1) * 7 = j * 7 + 7 by omega]
  rw [List.drop_eq_getElem_cons (show j * 7 < xs.length by omega), List.drop_eq_getElem_cons (show j * 7 + 1 < xs.length by omega), List.drop_eq_getElem_cons (show j * 7 + 2 < xs.length by omega), List.drop_eq_getElem_cons (show j * 7 + 3 < xs.length by omega), List.drop_eq_getElem_cons (show j * 7 + 4 < xs.length by omega), List.drop_eq_getElem_cons (show j * 7 + 5 < xs.length by omega), List.drop_eq_getElem_cons (show j * 7 + 6 < xs.length by omega)]
  rfl
set_option maxHeartbeats 1600000 in
theorem l_markStepS (base : Nat) (A : Option Addr) (n c c' : Nat) (xs : List Value) (k : Int) (w : World) (hO : w.ownsRow base 65 7 (.slice A n c) n xs) (hk0 : 0 ≤ k) (hk1 : k ≤ 4503599627370496) (hn : n ≤ 16777216) :
    Calls Tryz.prog 138 #[.slice A n c', .int .i64 k] w fun e w' => e = .returned (.int .i64 (k + 7 * (n : Int))) ∧ w'.ownsRow base 65 7 (.slice A n c) n (marksStep k n) ∧ w.grownBy w' (Value.slice A n c).ownBlock := by
  go_enter Tryz.func138, Tryz.ntmps138
  go_wp2
  go_loopw [1, 5] (fun q i wr => ∃ j : Nat, j ≤ n ∧ i = .int .i64 j ∧ q = .int .i64 (k + 7 * (j : Int)) ∧ wr.ownsRow base 65 7 (.slice A n c) n (marksStep k j ++ xs.drop (j * 7)) ∧ w.grownBy wr (Value.slice A n c).ownBlock) (fun _ i _ => n - (intOf i).toNat)
  case atStart => exact ⟨0, Nat.zero_le _, rfl, by simp, by simpa [marksStep] using hO, World.grownBy.refl w _⟩
  case round =>
    obtain ⟨j, hj, rfl, rfl, hown, hg⟩ := hrel
    have hxl : xs.length = n * 7 := hO.1
    have HX := Lib.hid hxl
    clear hxl
    by_cases hlt : j < n
    · obtain ⟨g, cap, hv, hbg, hglt⟩ := hown.form (by omega)
      have hA : A = some ⟨g, 0, none⟩ := by injection hv
      subst hA
      clear hv
      obtain ⟨z0, z1, z2, z3, z4, z5, z6, hz⟩ := drop_rowStep xs n j HX.out hlt
      have HZ := Lib.hid hz
      clear hz
      have hjn : j * 7 + 7 ≤ n * 7 := by omega
      obtain ⟨u0, hu0⟩ := own_cellk hown (j * 7) (by omega); have hf0 := hown.frozenAt (j * 7); obtain ⟨u1, hu1⟩ := own_cellk hown (j * 7 + 1) (by omega); have hf1 := hown.frozenAt (j * 7 + 1); obtain ⟨u2, hu2⟩ := own_cellk hown (j * 7 + 2) (by omega); have hf2 := hown.frozenAt (j * 7 + 2); obtain ⟨u3, hu3⟩ := own_cellk hown (j * 7 + 3) (by omega); have hf3 := hown.frozenAt (j * 7 + 3); obtain ⟨u4, hu4⟩ := own_cellk hown (j * 7 + 4) (by omega); have hf4 := hown.frozenAt (j * 7 + 4); obtain ⟨u5, hu5⟩ := own_cellk hown (j * 7 + 5) (by omega); have hf5 := hown.frozenAt (j * 7 + 5); obtain ⟨u6, hu6⟩ := own_cellk hown (j * 7 + 6) (by omega); have hf6 := hown.frozenAt (j * 7 + 6)
      go_wp2_with fail
      have hst0 := (hown).stored (j * 7) (.int .i64 (k + 7 * (j : Int)))
      have hgr0 := only_trans hg hst0.2
      have hst1 := (hst0.1).stored (j * 7 + 1) (.int .i64 (k + 7 * (j : Int) + 1))
      have hgr1 := only_trans hgr0 hst1.2
      have hst2 := (hst1.1).stored (j * 7 + 2) (.int .i64 (k + 7 * (j : Int) + 1 + 1))
      have hgr2 := only_trans hgr1 hst2.2
      have hst3 := (hst2.1).stored (j * 7 + 3) (.int .i64 (k + 7 * (j : Int) + 1 + 1 + 1))
      have hgr3 := only_trans hgr2 hst3.2
      have hst4 := (hst3.1).stored (j * 7 + 4) (.int .i64 (k + 7 * (j : Int) + 1 + 1 + 1 + 1))
      have hgr4 := only_trans hgr3 hst4.2
      refine (l_markText (k + 7 * (j : Int) + 1 + 1 + 1 + 1 + 1) _ (by omega) (by omega)).mono ?_
      rintro e w1 ⟨rfl, hb1⟩
      have ho1 := own_below (hst4.1) hb1
      have hgb1 := only_below hgr4 hb1
      obtain ⟨uw1_0, huw1_0⟩ := own_cellk ho1 (j * 7) (by omega); have hfw1_0 := ho1.frozenAt (j * 7); obtain ⟨uw1_1, huw1_1⟩ := own_cellk ho1 (j * 7 + 1) (by omega); have hfw1_1 := ho1.frozenAt (j * 7 + 1); obtain ⟨uw1_2, huw1_2⟩ := own_cellk ho1 (j * 7 + 2) (by omega); have hfw1_2 := ho1.frozenAt (j * 7 + 2); obtain ⟨uw1_3, huw1_3⟩ := own_cellk ho1 (j * 7 + 3) (by omega); have hfw1_3 := ho1.frozenAt (j * 7 + 3); obtain ⟨uw1_4, huw1_4⟩ := own_cellk ho1 (j * 7 + 4) (by omega); have hfw1_4 := ho1.frozenAt (j * 7 + 4); obtain ⟨uw1_5, huw1_5⟩ := own_cellk ho1 (j * 7 + 5) (by omega); have hfw1_5 := ho1.frozenAt (j * 7 + 5); obtain ⟨uw1_6, huw1_6⟩ := own_cellk ho1 (j * 7 + 6) (by omega); have hfw1_6 := ho1.frozenAt (j * 7 + 6)
      go_wp2_with fail
      have hst5 := (ho1).stored (j * 7 + 5) (.string (markT (k + 7 * (j : Int) + 1 + 1 + 1 + 1 + 1)))
      have hgr5 := only_trans hgb1 hst5.2
      refine (l_markText (k + 7 * (j : Int) + 1 + 1 + 1 + 1 + 1 + 1) _ (by omega) (by omega)).mono ?_
      rintro e w2 ⟨rfl, hb2⟩
      have ho2 := own_below (hst5.1) hb2
      have hgb2 := only_below hgr5 hb2
      obtain ⟨uw2_0, huw2_0⟩ := own_cellk ho2 (j * 7) (by omega); have hfw2_0 := ho2.frozenAt (j * 7); obtain ⟨uw2_1, huw2_1⟩ := own_cellk ho2 (j * 7 + 1) (by omega); have hfw2_1 := ho2.frozenAt (j * 7 + 1); obtain ⟨uw2_2, huw2_2⟩ := own_cellk ho2 (j * 7 + 2) (by omega); have hfw2_2 := ho2.frozenAt (j * 7 + 2); obtain ⟨uw2_3, huw2_3⟩ := own_cellk ho2 (j * 7 + 3) (by omega); have hfw2_3 := ho2.frozenAt (j * 7 + 3); obtain ⟨uw2_4, huw2_4⟩ := own_cellk ho2 (j * 7 + 4) (by omega); have hfw2_4 := ho2.frozenAt (j * 7 + 4); obtain ⟨uw2_5, huw2_5⟩ := own_cellk ho2 (j * 7 + 5) (by omega); have hfw2_5 := ho2.frozenAt (j * 7 + 5); obtain ⟨uw2_6, huw2_6⟩ := own_cellk ho2 (j * 7 + 6) (by omega); have hfw2_6 := ho2.frozenAt (j * 7 + 6)
      go_wp2
      have hst6 := (ho2).stored (j * 7 + 6) (.string (markT (k + 7 * (j : Int) + 1 + 1 + 1 + 1 + 1 + 1)))
      have hgr6 := only_trans hgb2 hst6.2
      go_roundw
      case rel =>
        refine ⟨j + 1, by omega, by go_num, by congr 1; omega, ?_, hgr6⟩
        have ho9 := hst6.1
        rw [HZ.out, set7 _ _ (j * 7) (marksStep_len _ _), ← List.append_assoc] at ho9
        rw [marksStep_succ]; exact ho9
      case measure => simp [intOf]; omega
    · have hjn : j = n := by omega
      subst hjn
      have hd : xs.drop (j * 7) = [] := List.drop_eq_nil_of_le (by have := HX.out; omega)
      rw [hd, List.append_nil] at hown
      clear hd
      go_wp2
      go_ret
      exact ⟨rfl, hown, hg⟩
set_option maxHeartbeats 1600000 in
theorem l_heldStepS (B : Nat) (A : Option Addr) (n c : Nat) (k : Int) (w : World) (hR : Reads w B 7 A n (marksStep k n)) (hB : B ≤ w.heap.size) (hk0 : 0 ≤ k) (hk1 : k ≤ 4503599627370496) (hn : n ≤ 16777216) :
    Calls Tryz.prog 140 #[.slice A n c, .int .i64 k] w fun e w' => e = .returned (.int .i64 (k + 7 * (n : Int))) ∧ Below w.heap.size w w' := by
  go_enter Tryz.func140, Tryz.ntmps140
  go_wp2
  go_loopw [1, 5] (fun q i wr => ∃ j : Nat, j ≤ n ∧ i = .int .i64 j ∧ q = .int .i64 (k + 7 * (j : Int)) ∧ Below w.heap.size w wr) (fun _ i _ => n - (intOf i).toNat)
  case atStart => exact ⟨0, Nat.zero_le _, rfl, by simp, Below.refl _ _⟩
  case round =>
    obtain ⟨j, hj, rfl, rfl, hb⟩ := hrel
    have hzr := hb.size
    by_cases hlt : j < n
    · obtain ⟨ad, hA, hab, hc⟩ := (hR.below (hb.mono hB)).2 (by omega)
      subst hA
      have hg := fun i hi => marksStep_get k n j i hlt hi
      have hc0 : wr.cell? (ad.add (j * 7)) = some (.int .i64 (k + 7 * (j : Int))) := hc _ _ (hg 0 (by omega))
      have hc1 : wr.cell? ⟨(ad.add (j * 7)).block, (ad.add (j * 7)).off + 1, none⟩ = some (.int .i64 (k + 7 * (j : Int) + 1)) := by rw [← add_next _ _ _ (by omega)]; exact hc _ _ (hg 1 (by omega))
      have hc2 : wr.cell? ⟨(ad.add (j * 7)).block, (ad.add (j * 7)).off + 2, none⟩ = some (.int .i64 (k + 7 * (j : Int) + 1 + 1)) := by rw [← add_next _ _ _ (by omega)]; exact hc _ _ (hg 2 (by omega))
      have hc3 : wr.cell? ⟨(ad.add (j * 7)).block, (ad.add (j * 7)).off + 3, none⟩ = some (.int .i64 (k + 7 * (j : Int) + 1 + 1 + 1)) := by rw [← add_next _ _ _ (by omega)]; exact hc _ _ (hg 3 (by omega))
      have hc4 : wr.cell? ⟨(ad.add (j * 7)).block, (ad.add (j * 7)).off + 4, none⟩ = some (.int .i64 (k + 7 * (j : Int) + 1 + 1 + 1 + 1)) := by rw [← add_next _ _ _ (by omega)]; exact hc _ _ (hg 4 (by omega))
      have hc5 : wr.cell? ⟨(ad.add (j * 7)).block, (ad.add (j * 7)).off + 5, none⟩ = some (.string (markT (k + 7 * (j : Int) + 1 + 1 + 1 + 1 + 1))) := by rw [← add_next _ _ _ (by omega)]; exact hc _ _ (hg 5 (by omega))
      have hc6 : wr.cell? ⟨(ad.add (j * 7)).block, (ad.add (j * 7)).off + 6, none⟩ = some (.string (markT (k + 7 * (j : Int) + 1 + 1 + 1 + 1 + 1 + 1))) := by rw [← add_next _ _ _ (by omega)]; exact hc _ _ (hg 6 (by omega))
      have hq1 : (ad.add (j * 7)).block < wr.heap.size := by rw [block_of_add]; omega
      clear hg hc
      have hbm5 := beq_toList_true (rfl : markT (k + 7 * (j : Int) + 1 + 1 + 1 + 1 + 1) = markT (k + 7 * (j : Int) + 1 + 1 + 1 + 1 + 1))
      have hbm6 := beq_toList_true (rfl : markT (k + 7 * (j : Int) + 1 + 1 + 1 + 1 + 1 + 1) = markT (k + 7 * (j : Int) + 1 + 1 + 1 + 1 + 1 + 1))
      go_wp2
      go_region_held3 (fun W => (∀ p : Addr, p.block < wr.heap.size → W.cell? p = (wr).cell? p) ∧ (∀ p : Addr, p.block < wr.heap.size → W.frozen? p = (wr).frozen? p) ∧ Below (wr.heap.size) (wr) W) (exact keep_ofP (by repeat (first | (with_reducible exact Below.refl _ _) | (with_reducible assumption) | (with_reducible exact (‹_ ∧ _ ∧ Below _ _ _›).2.2) | (with_reducible refine below_drewN ?_ _) | (with_reducible refine Below.drew ?_) | ((with_reducible refine Below.alloc ?_ ?hsd _); (case hsd => (first | exact Nat.le_refl _ | (simp; done) | omega | (simp; omega) | exact (‹_ ∧ _ ∧ Below _ _ _›).2.2.size))) | ((with_reducible refine Below.setCell ?_ ?hsd _); (case hsd => (first | exact Nat.le_refl _ | (simp; done) | omega | (simp; omega) | exact (‹_ ∧ _ ∧ Below _ _ _›).2.2.size))) | ((with_reducible refine Below.trans ?_ (Below.mono (by with_reducible assumption) ?hsd)); (case hsd => (first | exact Nat.le_refl _ | (simp; done) | omega | (simp; omega) | exact (‹_ ∧ _ ∧ Below _ _ _›).2.2.size))) | exact Below.refl _ _ | assumption | exact (‹_ ∧ _ ∧ Below _ _ _›).2.2 | refine below_drewN ?_ _ | refine Below.drew ?_ | refine Below.alloc ?_ (by first | exact Nat.le_refl _ | (simp; done) | omega | (simp; omega) | exact (‹_ ∧ _ ∧ Below _ _ _›).2.2.size) _ | refine Below.setCell ?_ (by first | exact Nat.le_refl _ | (simp; done) | omega | (simp; omega) | exact (‹_ ∧ _ ∧ Below _ _ _›).2.2.size) _ | refine Below.trans ?_ (Below.mono (by assumption) (by first | exact Nat.le_refl _ | (simp; done) | omega | (simp; omega) | exact (‹_ ∧ _ ∧ Below _ _ _›).2.2.size))))) ((go_at_call 137; refine (l_markText (k + 7 * (j : Int) + 1 + 1 + 1 + 1 + 1) _ (by omega) (by omega)).mono ?_; rintro e w1 ⟨rfl, hbr1⟩))
      have hb1 : Below wr.heap.size wr w1 := (Below.refl _ _).drew.trans hbr1
      have hz1 := hb1.size
      have hcc1 : ∀ q : Addr, q.block < wr.heap.size → w1.cell? q = wr.cell? q := fun q hq => hb1.cell hq
      have hqq1 : (ad.add (j * 7)).block < w1.heap.size := by omega
      go_wp2
      go_region_held3 (fun W => (∀ p : Addr, p.block < w1.heap.size → W.cell? p = (w1).cell? p) ∧ (∀ p : Addr, p.block < w1.heap.size → W.frozen? p = (w1).frozen? p) ∧ Below (w1.heap.size) (w1) W) (exact keep_ofP (by repeat (first | (with_reducible exact Below.refl _ _) | (with_reducible assumption) | (with_reducible exact (‹_ ∧ _ ∧ Below _ _ _›).2.2) | (with_reducible refine below_drewN ?_ _) | (with_reducible refine Below.drew ?_) | ((with_reducible refine Below.alloc ?_ ?hsd _); (case hsd => (first | exact Nat.le_refl _ | (simp; done) | omega | (simp; omega) | exact (‹_ ∧ _ ∧ Below _ _ _›).2.2.size))) | ((with_reducible refine Below.setCell ?_ ?hsd _); (case hsd => (first | exact Nat.le_refl _ | (simp; done) | omega | (simp; omega) | exact (‹_ ∧ _ ∧ Below _ _ _›).2.2.size))) | ((with_reducible refine Below.trans ?_ (Below.mono (by with_reducible assumption) ?hsd)); (case hsd => (first | exact Nat.le_refl _ | (simp; done) | omega | (simp; omega) | exact (‹_ ∧ _ ∧ Below _ _ _›).2.2.size))) | exact Below.refl _ _ | assumption | exact (‹_ ∧ _ ∧ Below _ _ _›).2.2 | refine below_drewN ?_ _ | refine Below.drew ?_ | refine Below.alloc ?_ (by first | exact Nat.le_refl _ | (simp; done) | omega | (simp; omega) | exact (‹_ ∧ _ ∧ Below _ _ _›).2.2.size) _ | refine Below.setCell ?_ (by first | exact Nat.le_refl _ | (simp; done) | omega | (simp; omega) | exact (‹_ ∧ _ ∧ Below _ _ _›).2.2.size) _ | refine Below.trans ?_ (Below.mono (by assumption) (by first | exact Nat.le_refl _ | (simp; done) | omega | (simp; omega) | exact (‹_ ∧ _ ∧ Below _ _ _›).2.2.size))))) ((go_at_call 137; refine (l_markText (k + 7 * (j : Int) + 1 + 1 + 1 + 1 + 1 + 1) _ (by omega) (by omega)).mono ?_; rintro e w2 ⟨rfl, hbr2⟩))
      have hb2 : Below w1.heap.size w1 w2 := (Below.refl _ _).drew.trans hbr2
      have hz2 := hb2.size
      have hcc2 : ∀ q : Addr, q.block < w1.heap.size → w2.cell? q = w1.cell? q := fun q hq => hb2.cell hq
      have hqq2 : (ad.add (j * 7)).block < w2.heap.size := by omega
      go_wp2
      go_roundw
      case rel => exact ⟨j + 1, by omega, by go_num, by congr 1; omega, (by repeat (first | (with_reducible exact Below.refl _ _) | (with_reducible assumption) | (with_reducible exact (‹_ ∧ _ ∧ Below _ _ _›).2.2) | (with_reducible refine below_drewN ?_ _) | (with_reducible refine Below.drew ?_) | ((with_reducible refine Below.alloc ?_ ?hsd _); (case hsd => (first | exact Nat.le_refl _ | (simp; done) | omega | (simp; omega) | exact (‹_ ∧ _ ∧ Below _ _ _›).2.2.size))) | ((with_reducible refine Below.setCell ?_ ?hsd _); (case hsd => (first | exact Nat.le_refl _ | (simp; done) | omega | (simp; omega) | exact (‹_ ∧ _ ∧ Below _ _ _›).2.2.size))) | ((with_reducible refine Below.trans ?_ (Below.mono (by with_reducible assumption) ?hsd)); (case hsd => (first | exact Nat.le_refl _ | (simp; done) | omega | (simp; omega) | exact (‹_ ∧ _ ∧ Below _ _ _›).2.2.size))) | exact Below.refl _ _ | assumption | exact (‹_ ∧ _ ∧ Below _ _ _›).2.2 | refine below_drewN ?_ _ | refine Below.drew ?_ | refine Below.alloc ?_ (by first | exact Nat.le_refl _ | (simp; done) | omega | (simp; omega) | exact (‹_ ∧ _ ∧ Below _ _ _›).2.2.size) _ | refine Below.setCell ?_ (by first | exact Nat.le_refl _ | (simp; done) | omega | (simp; omega) | exact (‹_ ∧ _ ∧ Below _ _ _›).2.2.size) _ | refine Below.trans ?_ (Below.mono (by assumption) (by first | exact Nat.le_refl _ | (simp; done) | omega | (simp; omega) | exact (‹_ ∧ _ ∧ Below _ _ _›).2.2.size))))⟩
      case measure => simp [intOf]; omega
    · have hjn : j = n := by omega
      subst hjn
      go_wp2
      go_ret
      exact ⟨rfl, hb⟩
end Go.Proofs.YtdddglihomchfaaGreat
