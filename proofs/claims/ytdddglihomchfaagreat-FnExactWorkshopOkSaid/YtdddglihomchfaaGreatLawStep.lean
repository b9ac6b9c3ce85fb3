/- szStep, toStep of the laws, and a Step argument opened. -/
import Derived.Test.YtdddglihomchfaaGreatLawBox
import Derived.Test.YtdddglihomchfaaGreatLawKit2
namespace Go.Proofs.YtdddglihomchfaaGreat
open Go.ChangeShapes Go.WideShapes Go.ChangeAt Go.RowKit
set_option linter.unusedVariables false
set_option maxRecDepth 10000

def szStep (b a : ByteArray) (left : Int) : Int := if left - b.size < 0 then -1 else if left - b.size - a.size < 0 then -1 else left - b.size - a.size
theorem sz_ub_step (b a : ByteArray) (l : Int) (h : l ≤ 1048576) : szStep b a l ≤ 1048576 := by
  unfold szStep; split
  · omega
  · split <;> omega
theorem step_of_sz {b a : ByteArray} {l : Int} (hl1 : l ≤ 1048576) (hz : 0 ≤ szStep b a l) : b.size ≤ 1048576 ∧ a.size ≤ 1048576 := by
  unfold szStep at hz
  split at hz
  · omega
  · split at hz <;> omega
set_option maxHeartbeats 400000 in
theorem l_szStep (K F L T I : Int) (b a : ByteArray) (left : Int) (w : World) (hb : b.size ≤ 9223372036854775807) (ha : a.size ≤ 9223372036854775807) (h0 : -1 ≤ left) (h1 : left ≤ 1048576) :
    Calls Tryz.prog 32 #[.agg #[.int .i64 K, .int .i64 F, .int .i64 L, .int .i64 T, .int .i64 I, .string b, .string a], .int .i64 left] w fun e w' => e = .returned (.int .i64 (szStep b a left)) ∧ Below w.heap.size w w' := by
  by_cases h2 : left - b.size < 0
  · have HF : Hid (szStep b a left = -1) := by unfold Hid szStep; rw [if_pos h2]
    go_enter Tryz.func32, Tryz.ntmps32
    go_wp2
    go_ret
    exact ⟨ret_int HF.out.symm, (by repeat (first | (with_reducible exact Below.refl _ _) | (with_reducible assumption) | (with_reducible exact (‹_ ∧ _ ∧ Below _ _ _›).2.2) | (with_reducible refine below_drewN ?_ _) | (with_reducible refine Below.drew ?_) | ((with_reducible refine Below.alloc ?_ ?hsd _); (case hsd => (first | exact Nat.le_refl _ | (simp; done) | omega | (simp; omega) | exact (‹_ ∧ _ ∧ Below _ _ _›).2.2.size))) | ((with_reducible refine Below.setCell ?_ ?hsd _); (case hsd => (first | exact Nat.le_refl _ | (simp; done) | omega | (simp; omega) | exact (‹_ ∧ _ ∧ Below _ _ _›).2.2.size))) | ((with_reducible refine Below.trans ?_ (Below.mono (by with_reducible assumption) ?hsd)); (case hsd => (first | exact Nat.le_refl _ | (simp; done) | omega | (simp; omega) | exact (‹_ ∧ _ ∧ Below _ _ _›).2.2.size))) | exact Below.refl _ _ | assumption | exact (‹_ ∧ _ ∧ Below _ _ _›).2.2 | refine below_drewN ?_ _ | refine Below.drew ?_ | refine Below.alloc ?_ (by first | exact Nat.le_refl _ | (simp; done) | omega | (simp; omega) | exact (‹_ ∧ _ ∧ Below _ _ _›).2.2.size) _ | refine Below.setCell ?_ (by first | exact Nat.le_refl _ | (simp; done) | omega | (simp; omega) | exact (‹_ ∧ _ ∧ Below _ _ _›).2.2.size) _ | refine Below.trans ?_ (Below.mono (by assumption) (by first | exact Nat.le_refl _ | (simp; done) | omega | (simp; omega) | exact (‹_ ∧ _ ∧ Below _ _ _›).2.2.size))))⟩
  · by_cases h3 : left - b.size - a.size < 0
    · have HF : Hid (szStep b a left = -1) := by unfold Hid szStep; rw [if_neg h2, if_pos h3]
      go_enter Tryz.func32, Tryz.ntmps32
      go_wp2
      go_ret
      exact ⟨ret_int HF.out.symm, (by repeat (first | (with_reducible exact Below.refl _ _) | (with_reducible assumption) | (with_reducible exact (‹_ ∧ _ ∧ Below _ _ _›).2.2) | (with_reducible refine below_drewN ?_ _) | (with_reducible refine Below.drew ?_) | ((with_reducible refine Below.alloc ?_ ?hsd _); (case hsd => (first | exact Nat.le_refl _ | (simp; done) | omega | (simp; omega) | exact (‹_ ∧ _ ∧ Below _ _ _›).2.2.size))) | ((with_reducible refine Below.setCell ?_ ?hsd _); (case hsd => (first | exact Nat.le_refl _ | (simp; done) | omega | (simp; omega) | exact (‹_ ∧ _ ∧ Below _ _ _›).2.2.size))) | ((with_reducible refine Below.trans ?_ (Below.mono (by with_reducible assumption) ?hsd)); (case hsd => (first | exact Nat.le_refl _ | (simp; done) | omega | (simp; omega) | exact (‹_ ∧ _ ∧ Below _ _ _›).2.2.size))) | exact Below.refl _ _ | assumption | exact (‹_ ∧ _ ∧ Below _ _ _›).2.2 | refine below_drewN ?_ _ | refine Below.drew ?_ | refine Below.alloc ?_ (by first | exact Nat.le_refl _ | (simp; done) | omega | (simp; omega) | exact (‹_ ∧ _ ∧ Below _ _ _›).2.2.size) _ | refine Below.setCell ?_ (by first | exact Nat.le_refl _ | (simp; done) | omega | (simp; omega) | exact (‹_ ∧ _ ∧ Below _ _ _›).2.2.size) _ | refine Below.trans ?_ (Below.mono (by assumption) (by first | exact Nat.le_refl _ | (simp; done) | omega | (simp; omega) | exact (‹_ ∧ _ ∧ Below _ _ _›).2.2.size))))⟩
    · have HF : Hid (szStep b a left = left - b.size - a.size) := by unfold Hid szStep; rw [if_neg h2, if_neg h3]
      go_enter Tryz.func32, Tryz.ntmps32
      go_wp2
      go_ret
      exact ⟨ret_int HF.out.symm, (by repeat (first | (with_reducible exact Below.refl _ _) | (with_reducible assumption) | (with_reducible exact (‹_ ∧ _ ∧ Below _ _ _›).2.2) | (with_reducible refine below_drewN ?_ _) | (with_reducible refine Below.drew ?_) | ((with_reducible refine Below.alloc ?_ ?hsd _); (case hsd => (first | exact Nat.le_refl _ | (simp; done) | omega | (simp; omega) | exact (‹_ ∧ _ ∧ Below _ _ _›).2.2.size))) | ((with_reducible refine Below.setCell ?_ ?hsd _); (case hsd => (first | exact Nat.le_refl _ | (simp; done) | omega | (simp; omega) | exact (‹_ ∧ _ ∧ Below _ _ _›).2.2.size))) | ((with_reducible refine Below.trans ?_ (Below.mono (by with_reducible assumption) ?hsd)); (case hsd => (first | exact Nat.le_refl _ | (simp; done) | omega | (simp; omega) | exact (‹_ ∧ _ ∧ Below _ _ _›).2.2.size))) | exact Below.refl _ _ | assumption | exact (‹_ ∧ _ ∧ Below _ _ _›).2.2 | refine below_drewN ?_ _ | refine Below.drew ?_ | refine Below.alloc ?_ (by first | exact Nat.le_refl _ | (simp; done) | omega | (simp; omega) | exact (‹_ ∧ _ ∧ Below _ _ _›).2.2.size) _ | refine Below.setCell ?_ (by first | exact Nat.le_refl _ | (simp; done) | omega | (simp; omega) | exact (‹_ ∧ _ ∧ Below _ _ _›).2.2.size) _ | refine Below.trans ?_ (Below.mono (by assumption) (by first | exact Nat.le_refl _ | (simp; done) | omega | (simp; omega) | exact (‹_ ∧ _ ∧ Below _ _ _›).2.2.size))))⟩
set_option maxHeartbeats 800000 in
theorem l_toStep (K F L T I : Int) (b a : ByteArray) (w : World) : Calls Tryz.prog 34 #[.agg #[.int .i64 K, .int .i64 F, .int .i64 L, .int .i64 T, .int .i64 I, .string b, .string a]] w fun e w' => e = .returned (.agg #[.int .i64 K, .int .i64 F, .int .i64 L, .int .i64 T, .int .i64 I, .string b, .string a]) ∧ Below w.heap.size w w' := by
  go_enter Tryz.func34, Tryz.ntmps34
  go_wp2_with (go_at_call 94; refine (l_toBox _ _ _ _).mono ?_; rintro e w1 ⟨rfl, hb1⟩; obtain ⟨hcb, hfb⟩ := bcell hb1; have hz_w1_0 : w.heap.size < w1.heap.size := (by have hzz := hb1.size; (try simp at hzz); omega); have hy_w1_0 := Nat.le_of_lt hz_w1_0; have hz_w1_1 : w.heap.size + 1 < w1.heap.size := (by have hzz := hb1.size; (try simp at hzz); omega); have hy_w1_1 := Nat.le_of_lt hz_w1_1; have hz_w1_2 : w.heap.size + 1 + 1 < w1.heap.size := (by have hzz := hb1.size; (try simp at hzz); omega); have hy_w1_2 := Nat.le_of_lt hz_w1_2)
  refine bodyPost_ret (v := .agg #[.int .i64 K, .int .i64 F, .int .i64 L, .int .i64 T, .int .i64 I, .string b, .string a]) (by simp [results, Tryz.results34, go_sem, *]) rfl ?_
  exact ⟨rfl, (by repeat (first | (with_reducible exact Below.refl _ _) | (with_reducible assumption) | (with_reducible exact (‹_ ∧ _ ∧ Below _ _ _›).2.2) | (with_reducible refine below_drewN ?_ _) | (with_reducible refine Below.drew ?_) | ((with_reducible refine Below.alloc ?_ ?hsd _); (case hsd => (first | exact Nat.le_refl _ | (simp; done) | omega | (simp; omega) | exact (‹_ ∧ _ ∧ Below _ _ _›).2.2.size))) | ((with_reducible refine Below.setCell ?_ ?hsd _); (case hsd => (first | exact Nat.le_refl _ | (simp; done) | omega | (simp; omega) | exact (‹_ ∧ _ ∧ Below _ _ _›).2.2.size))) | ((with_reducible refine Below.trans ?_ (Below.mono (by with_reducible assumption) ?hsd)); (case hsd => (first | exact Nat.le_refl _ | (simp; done) | omega | (simp; omega) | exact (‹_ ∧ _ ∧ Below _ _ _›).2.2.size)))))⟩
theorem array7 {α : Type} {cs : Array α} (h : cs.size = 7) : ∃ c0 c1 c2 c3 c4 c5 c6, cs = #[c0, c1, c2, c3, c4, c5, c6] := by
  obtain ⟨l⟩ := cs
  match l, h with
  | [c0, c1, c2, c3, c4, c5, c6], _ => exact ⟨c0, c1, c2, c3, c4, c5, c6, rfl⟩
theorem trod_field {H : Type} {enc : TypeId × Value → H} {P : Program} {w : World} {base : Nat} {spare : Nat → Bool} {held : Bool} {t : TypeId} {fs : Array Field} {fuel : Nat} {cs : List Value} {x : DataW H × List MemPlace}
    (ht : P.underlying t = some (.struct fs)) (h : DataW.trod enc P w base spare held fuel t cs = some x) (i : Nat) (f : Field) (hf : fs[i]? = some f) {c : Nat} (hc : P.cellsOf f.type = c) :
    ∃ n y, DataW.trod enc P w base spare held n f.type ((cs.drop f.offset).take c) = some y := by
  obtain ⟨xs, n, _, _, _, hlen, hg⟩ := DataW.trod_struct ht h
  have h1 := hg i f hf
  have hi : i < fs.size := (Array.getElem?_eq_some_iff.1 hf).1
  rw [List.getElem?_eq_getElem (by omega), hc] at h1
  exact ⟨n, _, h1⟩
theorem cells_int : Tryz.prog.cellsOf 3 = 1 := by kernel_rfl
theorem cells_lbox2 : Tryz.prog.cellsOf 58 = 3 := by kernel_rfl
theorem cells_lstep : Tryz.prog.cellsOf 60 = 7 := by kernel_rfl
theorem trod_step {H : Type} {enc : TypeId × Value → H} {W : World} {n : Nat} {c0 c1 c2 c3 c4 c5 c6 : Value} {x : DataW H × List MemPlace} (h : DataW.trod enc Tryz.prog W 0 (fun _ => true) true n 60 [c0, c1, c2, c3, c4, c5, c6] = some x) :
    ∃ (K F L T I : Int) (b a : ByteArray), [c0, c1, c2, c3, c4, c5, c6] = [.int .i64 K, .int .i64 F, .int .i64 L, .int .i64 T, .int .i64 I, .string b, .string a] ∧ b.size ≤ maxLen ∧ a.size ≤ maxLen := by
  obtain ⟨m0, y0, h0⟩ := trod_field Tryz.underlying60 h 0 _ rfl cells_int
  obtain ⟨m1, y1, h1⟩ := trod_field Tryz.underlying60 h 1 _ rfl cells_lbox2
  obtain ⟨m2, y2, h2⟩ := trod_field Tryz.underlying60 h 2 _ rfl cells_int
  obtain ⟨m3, y3, h3⟩ := trod_field Tryz.underlying60 h 3 _ rfl cells_str
  obtain ⟨m4, y4, h4⟩ := trod_field Tryz.underlying60 h 4 _ rfl cells_str
  obtain ⟨q0, z0, g0⟩ := trod_field Tryz.underlying58 h1 0 _ rfl cells_int
  obtain ⟨q1, z1, g1⟩ := trod_field Tryz.underlying58 h1 1 _ rfl cells_int
  obtain ⟨q2, z2, g2⟩ := trod_field Tryz.underlying58 h1 2 _ rfl cells_int
  obtain ⟨K, e0, _, _⟩ := DataW.trod_int Tryz.underlying3 h0
  obtain ⟨F, e1, _, _⟩ := DataW.trod_int Tryz.underlying3 g0
  obtain ⟨L, e2, _, _⟩ := DataW.trod_int Tryz.underlying3 g1
  obtain ⟨T, e3, _, _⟩ := DataW.trod_int Tryz.underlying3 g2
  obtain ⟨I, e4, _, _⟩ := DataW.trod_int Tryz.underlying3 h2
  obtain ⟨b, e5, _, hb⟩ := DataW.trod_string Tryz.underlying9 h3
  obtain ⟨a, e6, _, ha⟩ := DataW.trod_string Tryz.underlying9 h4
  simp at e0 e1 e2 e3 e4 e5 e6
  subst e0; subst e1; subst e2; subst e3; subst e4; subst e5; subst e6
  exact ⟨K, F, L, T, I, b, a, rfl, hb, ha⟩
theorem open_step {H : Type} {enc : TypeId × Value → H} {W : World} {r : Reach} {b0 : Nat} {v : Value} {d : DataW H} {p : List MemPlace}
    (hv : Value.okWide Tryz.prog W r b0 60 v) (h : DataW.Trod enc Tryz.prog W 0 (fun _ => true) true 60 v d p) :
    ∃ (K F L T I : Int) (b a : ByteArray), v = .agg #[.int .i64 K, .int .i64 F, .int .i64 L, .int .i64 T, .int .i64 I, .string b, .string a] ∧ b.size ≤ maxLen ∧ a.size ≤ maxLen := by
  obtain ⟨cs, rfl, hsz⟩ := okWide_struct Tryz.underlying60 hv
  obtain ⟨c0, c1, c2, c3, c4, c5, c6, rfl⟩ := array7 (hsz.trans cells_lstep)
  obtain ⟨fuel, hf⟩ := h
  have hf' : DataW.trod enc Tryz.prog W 0 (fun _ => true) true fuel 60 [c0, c1, c2, c3, c4, c5, c6] = some (d, p) := by simpa [Value.cells] using hf
  obtain ⟨K, F, L, T, I, b, a, he, hb, ha⟩ := trod_step hf'
  simp at he
  obtain ⟨rfl, rfl, rfl, rfl, rfl, rfl, rfl⟩ := he
  exact ⟨K, F, L, T, I, b, a, rfl, hb, ha⟩
end Go.Proofs.YtdddglihomchfaaGreat
