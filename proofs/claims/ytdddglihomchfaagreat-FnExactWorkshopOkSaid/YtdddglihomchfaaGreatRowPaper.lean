/- rows of Paper in the laws -/
import Derived.Test.YtdddglihomchfaaGreatRows1
import Derived.Test.YtdddglihomchfaaGreatLawPaper
namespace Go.Proofs.YtdddglihomchfaaGreat
open Go.ChangeShapes Go.WideShapes Go.ChangeAt Go.RowKit
set_option linter.unusedVariables false
set_option maxRecDepth 10000
theorem info_paperCells : (Tryz.prog.info? 118).map (fun i => (i.zero, i.size, i.bytes)) = some (some (.agg #[.int .i64 0, .int .i64 0, .int .i64 0]), 3, 24) := by kernel_rfl
set_option maxHeartbeats 1600000 in
theorem l_eqPaper_same (k g s : Int) (w : World) : Calls Tryz.prog 135 #[.agg #[.int .i64 k, .int .i64 g, .int .i64 s], .agg #[.int .i64 k, .int .i64 g, .int .i64 s]] w fun e w' => e = .returned (.bool true) ∧ Below w.heap.size w w' := by
  go_enter Tryz.func135, Tryz.ntmps135
  go_wp2
  go_ret
  exact ⟨rfl, (by repeat (first | (with_reducible exact Below.refl _ _) | (with_reducible assumption) | (with_reducible exact (‹_ ∧ _ ∧ Below _ _ _›).2.2) | (with_reducible refine below_drewN ?_ _) | (with_reducible refine Below.drew ?_) | ((with_reducible refine Below.alloc ?_ ?hsd _); (case hsd => (first | exact Nat.le_refl _ | (simp; done) | omega | (simp; omega) | exact (‹_ ∧ _ ∧ Below _ _ _›).2.2.size))) | ((with_reducible refine Below.setCell ?_ ?hsd _); (case hsd => (first | exact Nat.le_refl _ | (simp; done) | omega | (simp; omega) | exact (‹_ ∧ _ ∧ Below _ _ _›).2.2.size))) | ((with_reducible refine Below.trans ?_ (Below.mono (by with_reducible assumption) ?hsd)); (case hsd => (first | exact Nat.le_refl _ | (simp; done) | omega | (simp; omega) | exact (‹_ ∧ _ ∧ Below _ _ _›).2.2.size))) | exact Below.refl _ _ | assumption | exact (‹_ ∧ _ ∧ Below _ _ _›).2.2 | refine below_drewN ?_ _ | refine Below.drew ?_ | refine Below.alloc ?_ (by first | exact Nat.le_refl _ | (simp; done) | omega | (simp; omega) | exact (‹_ ∧ _ ∧ Below _ _ _›).2.2.size) _ | refine Below.setCell ?_ (by first | exact Nat.le_refl _ | (simp; done) | omega | (simp; omega) | exact (‹_ ∧ _ ∧ Below _ _ _›).2.2.size) _ | refine Below.trans ?_ (Below.mono (by assumption) (by first | exact Nat.le_refl _ | (simp; done) | omega | (simp; omega) | exact (‹_ ∧ _ ∧ Below _ _ _›).2.2.size))))⟩
def FreshPapers (base : Nat) (l : List PPaper) (w : World) (e : Ending) (w' : World) : Prop :=
  ∃ A c, e = .returned (.slice A l.length c) ∧ w'.ownsRow base 118 3 (.slice A l.length c) l.length (l.flatMap paperCells) ∧ Below w.heap.size w w'
set_option maxHeartbeats 1600000 in
theorem l_toPaperS (B : Nat) (A : Option Addr) (n c : Nat) (l : List PPaper) (w : World) (hS : Papers w B A n l) (hB : B ≤ w.heap.size) :
    Calls Tryz.prog 68 #[.slice A n c] w (FreshPapers w.heap.size l w) := by
  have hn := hS.nb
  have hl := hS.len
  have HL := Lib.hid hl
  clear hl
  obtain ⟨i0, hi0, hz0, hz1, hz2⟩ := info_parts info_paperCells
  have hmk := run_make_rowN (P := Tryz.prog) 39 118 i0 _ Tryz.underlying39 hi0 hz0 .i64 .i64 n n (Nat.le_refl _) (by rw [hz2]; omega) (by omega) w
  rw [hz1] at hmk
  go_enter Tryz.func68, Tryz.ntmps68
  go_wp2
  go_loopw [4] (fun i wr => ∃ j : Nat, j ≤ n ∧ i = .int .i64 j ∧ wr.ownsRow w.heap.size 118 3 (.slice (some ⟨w.heap.size, 0, none⟩) n n) n ((l.take j).flatMap paperCells ++ reps [.int .i64 0, .int .i64 0, .int .i64 0] (n - j)) ∧ Below w.heap.size w wr) (fun i _ => n - (intOf i).toNat)
  case atStart =>
    refine ⟨0, Nat.zero_le _, rfl, ?_, (by repeat (first | (with_reducible exact Below.refl _ _) | (with_reducible assumption) | (with_reducible exact (‹_ ∧ _ ∧ Below _ _ _›).2.2) | (with_reducible refine below_drewN ?_ _) | (with_reducible refine Below.drew ?_) | ((with_reducible refine Below.alloc ?_ ?hsd _); (case hsd => (first | exact Nat.le_refl _ | (simp; done) | omega | (simp; omega) | exact (‹_ ∧ _ ∧ Below _ _ _›).2.2.size))) | ((with_reducible refine Below.setCell ?_ ?hsd _); (case hsd => (first | exact Nat.le_refl _ | (simp; done) | omega | (simp; omega) | exact (‹_ ∧ _ ∧ Below _ _ _›).2.2.size))) | ((with_reducible refine Below.trans ?_ (Below.mono (by with_reducible assumption) ?hsd)); (case hsd => (first | exact Nat.le_refl _ | (simp; done) | omega | (simp; omega) | exact (‹_ ∧ _ ∧ Below _ _ _›).2.2.size))) | exact Below.refl _ _ | assumption | exact (‹_ ∧ _ ∧ Below _ _ _›).2.2 | refine below_drewN ?_ _ | refine Below.drew ?_ | refine Below.alloc ?_ (by first | exact Nat.le_refl _ | (simp; done) | omega | (simp; omega) | exact (‹_ ∧ _ ∧ Below _ _ _›).2.2.size) _ | refine Below.setCell ?_ (by first | exact Nat.le_refl _ | (simp; done) | omega | (simp; omega) | exact (‹_ ∧ _ ∧ Below _ _ _›).2.2.size) _ | refine Below.trans ?_ (Below.mono (by assumption) (by first | exact Nat.le_refl _ | (simp; done) | omega | (simp; omega) | exact (‹_ ∧ _ ∧ Below _ _ _›).2.2.size))))⟩
    have h := World.ownsRow_lit (w := w) (base := w.heap.size) (e := 118) (size := 3) (madeCells #[Value.int .i64 0, .int .i64 0, .int .i64 0] (n * 3)) n (Nat.le_refl _) (by unfold maxLen; omega) (by simp [madeCells])
    have hm := made_reps [Value.int .i64 0, .int .i64 0, .int .i64 0] n (by simp)
    rw [show (madeCells #[Value.int .i64 0, .int .i64 0, .int .i64 0] (n * 3)).toList = reps [Value.int .i64 0, .int .i64 0, .int .i64 0] n from hm] at h
    simpa using h
  case round =>
    obtain ⟨j, hj, rfl, hown, hb⟩ := hrel
    by_cases hlt : j < n
    · obtain ⟨hk1, ad, rfl, hab, hc0, hc1, hc2⟩ := (hS.below (hb.mono hB)).at_ hlt
      have hjn : j * 3 + 3 ≤ n * 3 := by omega
      go_wp2_with (go_at_call 125; refine (l_toPaper _ _ _ _).mono ?_; rintro e w1 ⟨rfl, hb1⟩; have ho1 := own_below hown hb1; obtain ⟨u0, hu0⟩ := own_cellk ho1 (j * 3) (by omega); have hf0 := ho1.frozenAt (j * 3); obtain ⟨u1, hu1⟩ := own_cellk ho1 (j * 3 + 1) (by omega); have hf1 := ho1.frozenAt (j * 3 + 1); obtain ⟨u2, hu2⟩ := own_cellk ho1 (j * 3 + 2) (by omega); have hf2 := ho1.frozenAt (j * 3 + 2))
      go_roundw
      case rel =>
        have hst0 := ho1.stored (j * 3) (.int .i64 l[j].k)
        have hst1 := hst0.1.stored (j * 3 + 1) (.int .i64 l[j].g)
        have hst2 := hst1.1.stored (j * 3 + 2) (.int .i64 l[j].s)
        have hgr := only_trans ( only_trans (hst0.2) hst1.2) hst2.2
        refine ⟨j + 1, by omega, by go_num, ?_, only_below_B (hb.trans (hb1.mono hb.size)) hgr⟩
        have ho2 := hst2.1
        have hA : ((l.take j).flatMap paperCells).length = j * 3 := by rw [flat_len paperCells_len, List.length_take, Nat.min_eq_left (by omega)]
        have hR : reps [.int .i64 0, .int .i64 0, .int .i64 0] (n - j) = [.int .i64 0, .int .i64 0, .int .i64 0] ++ reps [.int .i64 0, .int .i64 0, .int .i64 0] (n - (j + 1)) := by rw [show n - j = (n - (j + 1)) + 1 from by omega, reps_succ]
        rw [hR, set3 _ _ (j * 3) hA, ← List.append_assoc] at ho2
        have hT : (l.take (j + 1)).flatMap paperCells = (l.take j).flatMap paperCells ++ [.int .i64 l[j].k, .int .i64 l[j].g, .int .i64 l[j].s] := by rw [List.take_succ_eq_append_getElem hk1, flat_snoc]; rfl
        rw [hT]; exact ho2
      case measure => simp [intOf]; omega
    · have hjn : j = n := by omega
      subst hjn
      have hE : (l.take j).flatMap paperCells ++ reps [.int .i64 0, .int .i64 0, .int .i64 0] (j - j) = l.flatMap paperCells := by
        rw [List.take_of_length_le (by have := HL.out; omega)]; simp [reps]
      rw [hE] at hown
      clear hE
      have HO := hide hown
      clear hown
      go_wp2
      go_ret
      have hl := HL.out
      subst hl
      exact ⟨_, _, rfl, unhide HO, hb⟩
set_option maxHeartbeats 1600000 in
theorem l_eqPaperS_same (B : Nat) (A1 A2 : Option Addr) (n c1 c2 : Nat) (l : List PPaper) (w : World) (h1 : Papers w B A1 n l) (h2 : Papers w B A2 n l) (hB : B ≤ w.heap.size) :
    Calls Tryz.prog 75 #[.slice A1 n c1, .slice A2 n c2] w fun e w' => e = .returned (.bool true) ∧ Below w.heap.size w w' := by
  have hn := h1.nb
  go_enter Tryz.func75, Tryz.ntmps75
  go_wp2
  go_loopw [5] (fun i wr => ∃ j : Nat, j ≤ n ∧ i = .int .i64 j ∧ Below w.heap.size w wr) (fun i _ => n - (intOf i).toNat)
  case atStart => exact ⟨0, Nat.zero_le _, rfl, Below.refl _ _⟩
  case round =>
    obtain ⟨j, hj, rfl, hb⟩ := hrel
    have hzr := hb.size
    by_cases hlt : j < n
    · obtain ⟨hk1, ad1, rfl, hab1, ha0, ha1, ha2⟩ := (h1.below (hb.mono hB)).at_ hlt
      obtain ⟨hk2, ad2, rfl, hab2, hc0, hc1, hc2⟩ := (h2.below (hb.mono hB)).at_ hlt
      have hq1 : (ad1.add (j * 3)).block < wr.heap.size := by rw [block_of_add]; omega
      have hq2 : (ad2.add (j * 3)).block < wr.heap.size := by rw [block_of_add]; omega
      go_wp2
      go_region_held3 (fun W => (∀ p : Addr, p.block < wr.heap.size → W.cell? p = (wr).cell? p) ∧ (∀ p : Addr, p.block < wr.heap.size → W.frozen? p = (wr).frozen? p) ∧ Below (wr.heap.size) (wr) W) (exact keep_ofP (by repeat (first | (with_reducible exact Below.refl _ _) | (with_reducible assumption) | (with_reducible exact (‹_ ∧ _ ∧ Below _ _ _›).2.2) | (with_reducible refine below_drewN ?_ _) | (with_reducible refine Below.drew ?_) | ((with_reducible refine Below.alloc ?_ ?hsd _); (case hsd => (first | exact Nat.le_refl _ | (simp; done) | omega | (simp; omega) | exact (‹_ ∧ _ ∧ Below _ _ _›).2.2.size))) | ((with_reducible refine Below.setCell ?_ ?hsd _); (case hsd => (first | exact Nat.le_refl _ | (simp; done) | omega | (simp; omega) | exact (‹_ ∧ _ ∧ Below _ _ _›).2.2.size))) | ((with_reducible refine Below.trans ?_ (Below.mono (by with_reducible assumption) ?hsd)); (case hsd => (first | exact Nat.le_refl _ | (simp; done) | omega | (simp; omega) | exact (‹_ ∧ _ ∧ Below _ _ _›).2.2.size))) | exact Below.refl _ _ | assumption | exact (‹_ ∧ _ ∧ Below _ _ _›).2.2 | refine below_drewN ?_ _ | refine Below.drew ?_ | refine Below.alloc ?_ (by first | exact Nat.le_refl _ | (simp; done) | omega | (simp; omega) | exact (‹_ ∧ _ ∧ Below _ _ _›).2.2.size) _ | refine Below.setCell ?_ (by first | exact Nat.le_refl _ | (simp; done) | omega | (simp; omega) | exact (‹_ ∧ _ ∧ Below _ _ _›).2.2.size) _ | refine Below.trans ?_ (Below.mono (by assumption) (by first | exact Nat.le_refl _ | (simp; done) | omega | (simp; omega) | exact (‹_ ∧ _ ∧ Below _ _ _›).2.2.size))))) ((go_at_call 135; refine (l_eqPaper_same _ _ _ _).mono ?_; rintro e w3 ⟨rfl, hb3⟩))
      have hb3' : Below wr.heap.size wr w3 := (Below.refl _ _).drew.trans hb3
      go_wp2
      go_roundw
      case rel => exact ⟨j + 1, by omega, by go_num, hb.trans (hb3'.mono hzr)⟩
      case measure => simp [intOf]; omega
    · go_wp2
      go_ret
      exact ⟨rfl, hb⟩
def mkPaper (k : Int) : List Value := [.int .i64 (k), .int .i64 (k + 1), .int .i64 (k + 1 + 1)]
theorem mkPaper_len (k : Int) : (mkPaper k).length = 3 := rfl
def marksPaper (k : Int) (n : Nat) : List Value := (List.range n).flatMap fun (i : Nat) => mkPaper (k + 3 * (i : Int))
theorem marksPaper_len (k : Int) (n : Nat) : (marksPaper k n).length = n * 3 := by unfold marksPaper; rw [flat_len (fun (i : Nat) => mkPaper_len _)]; simp
theorem marksPaper_succ (k : Int) (n : Nat) : marksPaper k (n + 1) = marksPaper k n ++ mkPaper (k + 3 * (n : Int)) := by unfold marksPaper; rw [List.range_succ, flat_snoc]
theorem marksPaper_get (k : Int) (n i j : Nat) (hi : i < n) (hj : j < 3) : (marksPaper k n)[i * 3 + j]? = (mkPaper (k + 3 * (i : Int)))[j]? := by
  unfold marksPaper
  rw [flat_get (fun (i : Nat) => mkPaper_len _) _ i j (by simpa using hi) hj]; simp
theorem drop_rowPaper (xs : List Value) (n j : Nat) (hx : xs.length = n * 3) (hj : j < n) : ∃ z0 z1 z2 : Value, xs.drop (j * 3) = [z0, z1, z2] ++ xs.drop ((j + 1) * 3) := by
  have hlt : j * 3 + 3 ≤ xs.length := by rw [hx]; omega
  refine ⟨xs[j * 3], xs[j * 3 + 1], xs[j * 3 + 2], ?_⟩
  rw [show (j + 1) * 3 = j * 3 + 3 by omega]
  rw [List.drop_eq_getElem_cons (show j * 3 < xs.length by omega), List.drop_eq_getElem_cons (show j * 3 + 1 < xs.length by omega), List.drop_eq_getElem_cons (show j * 3 + 2 < xs.length by omega)]
  rfl
set_option maxHeartbeats 1600000 in
theorem l_markPaperS (base : Nat) (A : Option Addr) (n c : Nat) (xs : List Value) (k : Int) (w : World) (hO : w.ownsRow base 118 3 (.slice A n c) n xs) (hk0 : 0 ≤ k) (hk1 : k ≤ 4503599627370496) (hn : n ≤ 16777216) :
    Calls Tryz.prog 84 #[.slice A n c, .int .i64 k] w fun e w' => e = .returned (.int .i64 (k + 3 * (n : Int))) ∧ w'.ownsRow base 118 3 (.slice A n c) n (marksPaper k n) ∧ w.grownBy w' (Value.slice A n c).ownBlock := by
  go_enter Tryz.func84, Tryz.ntmps84
  go_wp2
  go_loopw [1, 5] (fun q i wr => ∃ j : Nat, j ≤ n ∧ i = .int .i64 j ∧ q = .int .i64 (k + 3 * (j : Int)) ∧ wr.ownsRow base 118 3 (.slice A n c) n (marksPaper k j ++ xs.drop (j * 3)) ∧ w.grownBy wr (Value.slice A n c).ownBlock) (fun _ i _ => n - (intOf i).toNat)
  case atStart => exact ⟨0, Nat.zero_le _, rfl, by simp, by simpa [marksPaper] using hO, World.grownBy.refl w _⟩
  case round =>
    obtain ⟨j, hj, rfl, rfl, hown, hg⟩ := hrel
    have hxl : xs.length = n * 3 := hO.1
    have HX := Lib.hid hxl
    clear hxl
    by_cases hlt : j < n
    · obtain ⟨g, cap, hv, hbg, hglt⟩ := hown.form (by omega)
      have hA : A = some ⟨g, 0, none⟩ := by injection hv
      subst hA
      clear hv
      obtain ⟨z0, z1, z2, hz⟩ := drop_rowPaper xs n j HX.out hlt
      have HZ := Lib.hid hz
      clear hz
      have hjn : j * 3 + 3 ≤ n * 3 := by omega
      obtain ⟨u0, hu0⟩ := own_cellk hown (j * 3) (by omega); have hf0 := hown.frozenAt (j * 3); obtain ⟨u1, hu1⟩ := own_cellk hown (j * 3 + 1) (by omega); have hf1 := hown.frozenAt (j * 3 + 1); obtain ⟨u2, hu2⟩ := own_cellk hown (j * 3 + 2) (by omega); have hf2 := hown.frozenAt (j * 3 + 2)
      go_wp2
      have hst0 := (hown).stored (j * 3) (.int .i64 (k + 3 * (j : Int)))
      have hgr0 := only_trans hg hst0.2
      have hst1 := (hst0.1).stored (j * 3 + 1) (.int .i64 (k + 3 * (j : Int) + 1))
      have hgr1 := only_trans hgr0 hst1.2
      have hst2 := (hst1.1).stored (j * 3 + 2) (.int .i64 (k + 3 * (j : Int) + 1 + 1))
      have hgr2 := only_trans hgr1 hst2.2
      go_roundw
      case rel =>
        refine ⟨j + 1, by omega, by go_num, by congr 1; omega, ?_, hgr2⟩
        have ho9 := hst2.1
        rw [HZ.out, set3 _ _ (j * 3) (marksPaper_len _ _), ← List.append_assoc] at ho9
        rw [marksPaper_succ]; exact ho9
      case measure => simp [intOf]; omega
    · have hjn : j = n := by omega
      subst hjn
      have hd : xs.drop (j * 3) = [] := List.drop_eq_nil_of_le (by have := HX.out; omega)
      rw [hd, List.append_nil] at hown
      clear hd
      go_wp2
      go_ret
      exact ⟨rfl, hown, hg⟩
set_option maxHeartbeats 1600000 in
theorem l_heldPaperS (B : Nat) (A : Option Addr) (n c : Nat) (k : Int) (w : World) (hR : Reads w B 3 A n (marksPaper k n)) (hB : B ≤ w.heap.size) (hk0 : 0 ≤ k) (hk1 : k ≤ 4503599627370496) (hn : n ≤ 16777216) :
    Calls Tryz.prog 87 #[.slice A n c, .int .i64 k] w fun e w' => e = .returned (.int .i64 (k + 3 * (n : Int))) ∧ Below w.heap.size w w' := by
  go_enter Tryz.func87, Tryz.ntmps87
  go_wp2
  go_loopw [1, 5] (fun q i wr => ∃ j : Nat, j ≤ n ∧ i = .int .i64 j ∧ q = .int .i64 (k + 3 * (j : Int)) ∧ Below w.heap.size w wr) (fun _ i _ => n - (intOf i).toNat)
  case atStart => exact ⟨0, Nat.zero_le _, rfl, by simp, Below.refl _ _⟩
  case round =>
    obtain ⟨j, hj, rfl, rfl, hb⟩ := hrel
    have hzr := hb.size
    by_cases hlt : j < n
    · obtain ⟨ad, hA, hab, hc⟩ := (hR.below (hb.mono hB)).2 (by omega)
      subst hA
      have hg := fun i hi => marksPaper_get k n j i hlt hi
      have hc0 : wr.cell? (ad.add (j * 3)) = some (.int .i64 (k + 3 * (j : Int))) := hc _ _ (hg 0 (by omega))
      have hc1 : wr.cell? ⟨(ad.add (j * 3)).block, (ad.add (j * 3)).off + 1, none⟩ = some (.int .i64 (k + 3 * (j : Int) + 1)) := by rw [← add_next _ _ _ (by omega)]; exact hc _ _ (hg 1 (by omega))
      have hc2 : wr.cell? ⟨(ad.add (j * 3)).block, (ad.add (j * 3)).off + 2, none⟩ = some (.int .i64 (k + 3 * (j : Int) + 1 + 1)) := by rw [← add_next _ _ _ (by omega)]; exact hc _ _ (hg 2 (by omega))
      have hq1 : (ad.add (j * 3)).block < wr.heap.size := by rw [block_of_add]; omega
      clear hg hc
      go_wp2
      go_roundw
      case rel => exact ⟨j + 1, by omega, by go_num, by congr 1; omega, (by repeat (first | (with_reducible exact Below.refl _ _) | (with_reducible assumption) | (with_reducible exact (‹_ ∧ _ ∧ Below _ _ _›).2.2) | (with_reducible refine below_drewN ?_ _) | (with_reducible refine Below.drew ?_) | ((with_reducible refine Below.alloc ?_ ?hsd _); (case hsd => (first | exact Nat.le_refl _ | (simp; done) | omega | (simp; omega) | exact (‹_ ∧ _ ∧ Below _ _ _›).2.2.size))) | ((with_reducible refine Below.setCell ?_ ?hsd _); (case hsd => (first | exact Nat.le_refl _ | (simp; done) | omega | (simp; omega) | exact (‹_ ∧ _ ∧ Below _ _ _›).2.2.size))) | ((with_reducible refine Below.trans ?_ (Below.mono (by with_reducible assumption) ?hsd)); (case hsd => (first | exact Nat.le_refl _ | (simp; done) | omega | (simp; omega) | exact (‹_ ∧ _ ∧ Below _ _ _›).2.2.size))) | exact Below.refl _ _ | assumption | exact (‹_ ∧ _ ∧ Below _ _ _›).2.2 | refine below_drewN ?_ _ | refine Below.drew ?_ | refine Below.alloc ?_ (by first | exact Nat.le_refl _ | (simp; done) | omega | (simp; omega) | exact (‹_ ∧ _ ∧ Below _ _ _›).2.2.size) _ | refine Below.setCell ?_ (by first | exact Nat.le_refl _ | (simp; done) | omega | (simp; omega) | exact (‹_ ∧ _ ∧ Below _ _ _›).2.2.size) _ | refine Below.trans ?_ (Below.mono (by assumption) (by first | exact Nat.le_refl _ | (simp; done) | omega | (simp; omega) | exact (‹_ ∧ _ ∧ Below _ _ _›).2.2.size))))⟩
      case measure => simp [intOf]; omega
    · have hjn : j = n := by omega
      subst hjn
      go_wp2
      go_ret
      exact ⟨rfl, hb⟩
end Go.Proofs.YtdddglihomchfaaGreat
