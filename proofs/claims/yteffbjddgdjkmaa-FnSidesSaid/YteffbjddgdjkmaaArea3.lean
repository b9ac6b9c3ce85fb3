/- The contracts of AreaBetween, areAlike, RepairCost, SideDistance of both packages. -/
import Derived.Test.YteffbjddgdjkmaaArea2
import Derived.Deep.RegionHeld3
import Derived.IntWalk
namespace Go.Proofs.Yteffbjddgdjkmaa
open Go.ChangeShapes Go.WideShapes Go.ChangeAt Go.RowKit
set_option linter.unusedVariables false
set_option maxRecDepth 10000

def areaL : List Int → List Int → Int
  | a :: l, b :: m => max (a - b) (b - a) + areaL l m
  | _, _ => 0
theorem areaL_take (a b : List Int) (k : Nat) (ha : k < a.length) (hb : k < b.length) : areaL (a.take (k + 1)) (b.take (k + 1)) = areaL (a.take k) (b.take k) + max (a[k] - b[k]) (b[k] - a[k]) := by
  induction k generalizing a b with
  | zero =>
    match a, b, ha, hb with
    | x :: l, y :: m, _, _ => simp [areaL]
  | succ k ih =>
    match a, b, ha, hb with
    | x :: l, y :: m, ha, hb =>
      simp only [List.take_succ_cons, areaL, List.getElem_cons_succ]
      rw [ih l m (by simpa using ha) (by simpa using hb)]; omega
theorem areaL_bd (a b : List Int) (M : Int) (hM : 0 ≤ M) (ha : ∀ x ∈ a, -M ≤ x ∧ x ≤ M) (hb : ∀ x ∈ b, -M ≤ x ∧ x ≤ M) : 0 ≤ areaL a b ∧ areaL a b ≤ (2 * M) * a.length := by
  induction a generalizing b with
  | nil => simp [areaL]
  | cons x l ih =>
    cases b with
    | nil =>
      simp only [areaL, List.length_cons]
      refine ⟨Int.le_refl _, Int.mul_nonneg (by omega) (by omega)⟩
    | cons y m =>
      have h1 := ih m (fun z hz => ha z (List.mem_cons_of_mem _ hz)) (fun z hz => hb z (List.mem_cons_of_mem _ hz))
      have h2 := ha x List.mem_cons_self
      have h3 := hb y List.mem_cons_self
      simp only [areaL, List.length_cons]
      have h4 : (2 * M) * ((l.length + 1 : Nat) : Int) = (2 * M) * (l.length : Int) + 2 * M := by
        rw [show ((l.length + 1 : Nat) : Int) = (l.length : Int) + 1 by omega, Int.mul_add, Int.mul_one]
      rw [h4]
      generalize (2 * M) * (l.length : Int) = q at *
      omega
theorem areaL_ge_take (a b : List Int) (k : Nat) : areaL (a.take k) (b.take k) ≤ areaL a b ∧ 0 ≤ areaL (a.take k) (b.take k) := by
  induction k generalizing a b with
  | zero =>
    have : ∀ a b : List Int, 0 ≤ areaL a b := by
      intro a
      induction a with
      | nil => intro b; simp [areaL]
      | cons x l ih =>
        intro b; cases b with
        | nil => simp [areaL]
        | cons y m => have := ih m; simp only [areaL]; omega
    simp only [List.take_zero, areaL]; exact ⟨this a b, Int.le_refl _⟩
  | succ k ih =>
    match a, b with
    | [], b => simp [areaL]
    | x :: l, [] => simp [areaL]
    | x :: l, y :: m => have := ih l m; simp only [List.take_succ_cons, areaL]; omega
def areaOf (s t : List UInt8) : Int := if sameFrame s t = true then areaL (htsOf s) (htsOf t) else -1
theorem areaOf_yes {s t : List UInt8} (h : sameFrame s t = true) : areaOf s t = areaL (htsOf s) (htsOf t) := by unfold areaOf; rw [if_pos h]
theorem areaOf_no {s t : List UInt8} (h : sameFrame s t = false) : areaOf s t = -1 := by unfold areaOf; rw [if_neg (by rw [h]; simp)]
theorem hts_strip {l : List UInt8} (h : isStrip l = true) : (htsOf l).length ≤ 8 ∧ ∀ x ∈ htsOf l, -16 ≤ x ∧ x ≤ 16 := by
  have h1 := strip_len h
  refine ⟨by rw [htsOf_len]; omega, fun x hx => ?_⟩
  have := hts_bd _ _ x hx
  omega
theorem areaOf_bd (s t : List UInt8) : -1 ≤ areaOf s t ∧ areaOf s t ≤ 256 := by
  cases h : sameFrame s t
  · rw [areaOf_no h]; omega
  · rw [areaOf_yes h]
    obtain ⟨h1, h2, _, _⟩ := sf_yes h
    obtain ⟨a1, a2⟩ := hts_strip h1
    obtain ⟨b1, b2⟩ := hts_strip h2
    have := areaL_bd (htsOf s) (htsOf t) 16 (by omega) a2 b2
    omega
theorem ints_at {w : World} {B : Nat} {A : Option Addr} {n k : Nat} {l : List Int} (h : Reads w B 1 A n (ints l)) (hk : k < n) : ∃ (hk' : k < l.length) (ad : Addr), A = some ad ∧ ad.block < B ∧ w.cell? (ad.add k) = some (.int .i64 l[k]) := by
  obtain ⟨ad, u, rfl, hb, hx, hc⟩ := h.at_ hk
  have hl : k < l.length := by
    have := h.1
    simp [ints] at this
    omega
  refine ⟨hl, ad, rfl, hb, ?_⟩
  rw [hc]
  unfold ints at hx
  rw [List.getElem?_map, List.getElem?_eq_getElem hl] at hx
  simpa using hx.symm

set_option maxHeartbeats 1600000 in
theorem i_AreaBetween (s t : ByteArray) (w : World) (hs : s.size ≤ 16777216) (ht : t.size ≤ 16777216) :
    Calls Try.prog 110 #[.string s, .string t] w fun e w' => e = .returned (.int .i64 (areaOf s.data.toList t.data.toList)) ∧ Below w.heap.size w w' := by
  cases hf : sameFrame s.data.toList t.data.toList
  · have HP := Lib.hid (areaOf_no hf)
    go_enter Try.func110, Try.ntmps110
    go_wp2_with (first | (go_at_call 157; refine (i_SameFrame _ _ _ hs ht).mono ?_; rw [hf]; rintro e w' ⟨rfl, rfl⟩))
    go_ret
    exact ⟨ret_int HP.out.symm, bel⟩
  · have HP := Lib.hid (areaOf_yes hf)
    obtain ⟨h1, h2, _, hc⟩ := sf_yes hf
    obtain ⟨la, ba⟩ := hts_strip h1
    obtain ⟨lb, bb⟩ := hts_strip h2
    have hab : (htsOf s.data.toList).length = (htsOf t.data.toList).length := by rw [htsOf_len, htsOf_len, hc]
    have hsum := (areaL_bd (htsOf s.data.toList) (htsOf t.data.toList) 16 (by omega) ba bb).2
    clear hc
    generalize ea : htsOf s.data.toList = a at *
    generalize eb : htsOf t.data.toList = b at *
    generalize en : b.length = N at *
    have HA := Lib.hid hab
    have HB := Lib.hid en
    have HEA := Lib.hid ea
    have HEB := Lib.hid eb
    have hN : N ≤ 8 := lb
    have hsum' : areaL a b ≤ 256 := by omega
    have BA := hide ba
    have BB := hide bb
    clear hab en ea eb la lb ba bb hsum
    go_enter Try.func110, Try.ntmps110
    go_wp2_with (first | (go_at_call 157; refine (i_SameFrame _ _ _ hs ht).mono ?_; rw [hf]; rintro e w' ⟨rfl, rfl⟩))
    refine (i_HeightsOf t _ ht h2).mono ?_
    rw [HEB.out]
    rintro e w1 ⟨A1, c1, rfl, ho1, hb1⟩
    rw [HB.out] at ho1 ⊢
    go_wp2_with fail
    refine (i_HeightsOf s _ hs h1).mono ?_
    rw [HEA.out]
    rintro e w2 ⟨A2, c2, rfl, ho2, hb2⟩
    rw [HA.out] at ho2 ⊢
    have hR1 := (Reads.of_own ho1).below hb2
    have hR2 := Reads.of_own ho2
    have hz1 := hb1.size
    have hbw : Below w.heap.size w w2 := bel
    have hz2 := hb2.size
    clear ho1 ho2
    go_wp2
    go_loopw [5, 18] (fun q i wr => ∃ k m : Nat, k ≤ N ∧ i = .int .i64 k ∧ q = .int .i64 (areaL (a.take k) (b.take k)) ∧ wr = w2.drewN m) (fun _ i _ => N - (intOf i).toNat)
    case atStart => exact ⟨0, 0, Nat.zero_le _, rfl, by simp [areaL], rfl⟩
    case round =>
      obtain ⟨k, m, hk, rfl, rfl, rfl⟩ := hrel
      by_cases hlt : k < N
      · obtain ⟨hk1, ad1, rfl, hab1, hc1⟩ := ints_at hR1 hlt
        obtain ⟨hk2, ad2, rfl, hab2, hc2⟩ := ints_at hR2 hlt
        have hka : k < a.length := by have := HA.out; omega
        have hkb : k < b.length := by have := HB.out; omega
        have HS := Lib.hid (areaL_take a b k hka hkb)
        have ba1 := unhide BA a[k] (List.getElem_mem hka)
        have bb1 := unhide BB b[k] (List.getElem_mem hkb)
        have hg1 := areaL_ge_take a b k
        obtain ⟨hg1a, hg1b⟩ := hg1
        obtain ⟨ba1a, ba1b⟩ := ba1
        obtain ⟨bb1a, bb1b⟩ := bb1
        generalize ex : a[k] = x at *
        generalize ey : b[k] = y at *
        have hw1 : IntKind.i64.wrap (x - y) = x - y := IntWalk.i64_in _ (by omega)
        have hw2 : IntKind.i64.wrap (y - x) = y - x := IntWalk.i64_in _ (by omega)
        have hw3 : IntKind.i64.wrap (areaL (a.take k) (b.take k) + max (x - y) (y - x)) = areaL (a.take k) (b.take k) + max (x - y) (y - x) := IntWalk.i64_in _ (by omega)
        go_wp2
        go_quiet (fail)
        go_wp2
        go_roundw
        case rel => exact ⟨k + 1, _, by omega, by go_num, by rw [HS.out], by first | rfl | exact World.drewN_drewN _ _ _⟩
        case measure => simp [intOf]; omega
      · have hke : k = N := by omega
        have ta : a.take k = a := List.take_of_length_le (by have := HA.out; omega)
        have tb : b.take k = b := List.take_of_length_le (by have := HB.out; omega)
        rw [ta, tb]
        clear ta tb
        subst hke
        go_wp2
        go_ret
        exact ⟨ret_int HP.out.symm, bel⟩
end Go.Proofs.Yteffbjddgdjkmaa
