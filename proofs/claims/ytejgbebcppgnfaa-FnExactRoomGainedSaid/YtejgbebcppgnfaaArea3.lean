/- The contracts of AreaBetween, areAlike, RepairCost, SideDistance of both packages. -/
import Derived.Test.YtejgbebcppgnfaaArea2
import Derived.Deep.RegionHeld3
import Derived.IntWalk
namespace Go.Proofs.Ytejgbebcppgnfaa
open Go.ChangeShapes Go.WideShapes Go.ChangeAt Go.RowKit
set_option linter.unusedVariables false
set_option maxRecDepth 10000

def areaL : List Int → List Int → Int
  | a :: l, b :: m => max (a - b) (b - a) + areaL l m
  | _, _ => 0
theorem areaL_take (a b : List Int) (k : Nat) (ha : k < a.length) (hb : k < b.length) : areaL (a.take (k + 1)) (b.take (k + 1)) = areaL (a.take k) (b.take k) + max (a[k] - b[k]) (b[k] - a[k]) := by
  induction k generalizing a b with
  | zero =>
    match a, b, ha, hb with
    | x :: l, y :: m, _, _ => simp [areaL]
  | succ k ih =>
    match a, b, ha, hb with
    | x :: l, y :: m, ha, hb =>
      simp only [List.take_succ_cons, areaL, List.getElem_cons_succ]
      rw [ih l m (by simpa using ha) (by simpa using hb)]; omega
theorem areaL_bd (a b : List Int) (M : Int) (hM : 0 ≤ M) (ha : ∀ x ∈ a, -M ≤ x ∧ x ≤ M) (hb : ∀ x ∈ b, -M ≤ x ∧ x ≤ M) : 0 ≤ areaL a b ∧ areaL a b ≤ (2 * M) * a.length := by
  induction a generalizing b with
  | nil => simp [areaL]
  | cons x l ih =>
    cases b with
    | nil =>
      simp only [areaL, List.length_cons]
      refine ⟨Int.le_refl _, Int.mul_nonneg (by omega) (by omega)⟩
    | cons y m =>
      have h1 := ih m (fun z hz => ha z (List.mem_cons_of_mem _ hz)) (fun z hz => hb z (List.mem_cons_of_mem _ hz))
      have h2 := ha x List.mem_cons_self
      have h3 := hb y List.mem_cons_self
      simp only [areaL, List.length_cons]
      have h4 : (2 * M) * ((l.length + 1 : Nat) : Int) = (2 * M) * (l.length : Int) + 2 * M := by
        rw [show ((l.length + 1 : Nat) : Int) = (l.length : Int) + 1 by omega, Int.mul_add, Int.mul_one]
      rw [h4]
      generalize (2 * M) * (l.length : Int) = q at *
      omega
theorem areaL_ge_take (a b : List Int) (k : Nat) : areaL (a.take k) (b.take k) ≤ areaL a b ∧ 0 ≤ areaL (a.take k) (b.take k) := by
  induction k generalizing a b with
  | zero =>
    have : ∀ a b : List Int, 0 ≤ areaL a b := by
      intro a
      induction a with
      | nil => intro b; simp [areaL]
      | cons x l ih =>
        intro b; cases b with
        | nil => simp [areaL]
        | cons y m => have := ih m; simp only [areaL]; omega
    simp only [List.take_zero, areaL]; exact ⟨this a b, Int.le_refl _⟩
  | succ k ih =>
    match a, b with
    | [], b => simp [areaL]
    | x :: l, [] => simp [areaL]
    | x :: l, y :: m => have := ih l m; simp only [List.take_succ_cons, areaL]; omega
def areaOf (s t : List UInt8) : Int := if sameFrame s t = true then areaL (htsOf s) (htsOf t) else -1
theorem areaOf_yes {s t : List UInt8} (h : sameFrame s t = true) : areaOf s t = areaL (htsOf s) (htsOf t) := by unfold areaOf; rw [if_pos h]
theorem areaOf_no {s t : List UInt8} (h : sameFrame s t = false) : areaOf s t = -1 := by unfold areaOf; rw [if_neg (by rw [h]; simp)]
theorem hts_strip {l : List UInt8} (h : isStrip l = true) : (htsOf l).length ≤ 8 ∧ ∀ x ∈ htsOf l, -16 ≤ x ∧ x ≤ 16 := by
  have h1 := strip_len h
  refine ⟨by rw [htsOf_len]; omega, fun x hx => ?_⟩
  have := hts_bd _ _ x hx
  omega
theorem areaOf_bd (s t : List UInt8) : -1 ≤ areaOf s t ∧ areaOf s t ≤ 256 := by
  cases h : sameFrame s t
  · rw [areaOf_no h]; omega
  · rw [areaOf_yes h]
    obtain ⟨h1, h2, _, _⟩ := sf_yes h
    obtain ⟨a1, a2⟩ := hts_strip h1
    obtain ⟨b1, b2⟩ := hts_strip h2
    have := areaL_bd (htsOf s) (htsOf t) 16 (by omega) a2 b2
    omega
theorem ints_at {w : World} {B : Nat} {A : Option Addr} {n k : Nat} {l : List Int} (h : Reads w B 1 A n (ints l)) (hk : k < n) : ∃ (hk' : k < l.length) (ad : Addr), A = some ad ∧ ad.block < B ∧ w.cell? (ad.add k) = some (.int .i64 l[k]) := by
  obtain ⟨ad, u, rfl, hb, hx, hc⟩ := h.at_ hk
  have hl : k < l.length := by
    have := h.1
    simp [ints] at this
    omega
  refine ⟨hl, ad, rfl, hb, ?_⟩
  rw [hc]
  unfold ints at hx
  rw [List.getElem?_map, List.getElem?_eq_getElem hl] at hx
  simpa using hx.symm

end Go.Proofs.Ytejgbebcppgnfaa
