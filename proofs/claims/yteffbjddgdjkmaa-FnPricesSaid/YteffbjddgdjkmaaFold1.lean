/- The folds of a strip: the contracts of CornersOf, CountFolds of both packages. -/
import Derived.Test.YteffbjddgdjkmaaFlip1
import Derived.Test.YteffbjddgdjkmaaArea2
import Derived.Test.YteffbjddgdjkmaaCard5
import Derived.Test.YteffbjddgdjkmaaMem3
import Derived.Deep.QuietTactic
import Derived.BigQuiet
import Derived.Deep.DeepCutAuto
namespace Go.Proofs.Yteffbjddgdjkmaa
open Go.ChangeShapes Go.WideShapes Go.ChangeAt Go.RowKit
set_option linter.unusedVariables false
set_option linter.unusedSimpArgs false
set_option maxRecDepth 10000

def cornN (s : ByteArray) : Nat → Nat
  | 0 => 0
  | j + 1 => cornN s j + if cornerAny s (j : Int) = true then 1 else 0
theorem cornN_yes {s : ByteArray} {j : Nat} (h : cornerAny s (j : Int) = true) : cornN s (j + 1) = cornN s j + 1 := by
  show cornN s j + _ = _; rw [if_pos h]
theorem cornN_no {s : ByteArray} {j : Nat} (h : cornerAny s (j : Int) = false) : cornN s (j + 1) = cornN s j := by
  show cornN s j + _ = _; rw [h]; rfl
theorem cornN_le (s : ByteArray) : ∀ j, cornN s j ≤ j
  | 0 => Nat.le_refl _
  | j + 1 => by have := cornN_le s j; show cornN s j + _ ≤ _; split <;> omega
theorem cornN_one (s : ByteArray) : cornN s 1 = 0 := by
  rw [cornN_no (by unfold cornerAny inB; simp)]; rfl
def cornL (s : ByteArray) : Nat := if isStrip s.data.toList = true then cornN s s.size else 0
def foldsOf (s : ByteArray) : Int := if isStrip s.data.toList = true then ((cornN s s.size : Nat) : Int) + (if chr s 0 = 102 then 1 else 0) + (if chr s ((s.size : Int) - 1) = 100 then 1 else 0) else -1
theorem foldsOf_bd (s : ByteArray) (h : s.size ≤ 16777216) : -1 ≤ foldsOf s ∧ foldsOf s ≤ 16777218 := by
  have := cornN_le s s.size
  unfold foldsOf
  split
  · split <;> split <;> omega
  · omega
theorem strip_pos {s : ByteArray} (h : isStrip s.data.toList = true) : 2 ≤ s.size := by
  unfold isStrip at h
  simp only [Bool.and_eq_true, beq_iff_eq, inB, decide_eq_true_eq] at h
  have h1 := cnt_two s.data.toList
  have h2 : s.data.toList.length = s.size := by simp
  omega
set_option maxHeartbeats 1600000 in
theorem i_CornersOf (s : ByteArray) (w : World) (hs : s.size ≤ 16777216) :
    Calls Try.prog 145 #[.string s] w fun e w' => ∃ A c, e = .returned (.slice A (cornL s) c) ∧ Below w.heap.size w w' := by
  have hq1 : ∀ W : World, Calls Try.prog 97 #[.string s] W fun e w' => e = .returned (.bool (isStrip s.data.toList)) ∧ W = w' := fun W => i_IsStrip s W (by unfold maxLen; omega)
  cases hi : isStrip s.data.toList
  · rw [hi] at hq1
    have HQ1 := hide hq1
    have HR : Hid (cornL s = 0) := by unfold Hid cornL; rw [hi]; rfl
    clear hq1 hi
    go_enter Try.func145, Try.ntmps145
    go_wp2_with (go_at_call 97; refine (unhide HQ1 _).mono ?_; rintro e w' ⟨rfl, rfl⟩)
    go_ret
    exact ⟨none, 0, (by rw [HR.out]; rfl), Below.refl _ _⟩
  · rw [hi] at hq1
    have HQ1 := hide hq1
    have HR : Hid (cornL s = cornN s s.size) := by unfold Hid cornL; rw [hi]; rfl
    clear hq1 hi
    obtain ⟨i0, hi0, hz0, hz1, hz2⟩ := info_parts info_int
    go_enter Try.func145, Try.ntmps145
    go_wp2_with (go_at_call 97; refine (unhide HQ1 _).mono ?_; rintro e w' ⟨rfl, rfl⟩)
    go_loopw [3, 11] (fun o i wr => ∃ (j N : Nat) (A' : Option Addr) (c' : Nat) (xs : List Value), j ≤ s.size ∧ i = .int .i64 j ∧ o = .slice A' N c' ∧ Hid (N = cornN s j) ∧ wr.ownsRow w.heap.size 3 1 (.slice A' N c') N xs ∧ Below w.heap.size w wr) (fun _ i _ => s.size - (intOf i).toNat)
    case atStart =>
      have h := made_at (e := 3) (size := 1) w w.heap.size w.heap.size rfl (Nat.le_refl _)
      exact ⟨0, 0, _, _, _, Nat.zero_le _, rfl, rfl, rfl, h, bel⟩
    case round =>
      obtain ⟨j, N, A', c', xs, hj, rfl, rfl, HN, hown, hb⟩ := hrel
      have hbs := hb.size
      have hNj : N ≤ j := by have := cornN_le s j; have := HN.out; omega
      by_cases hlt : j < s.size
      · cases hcr : cornerAny s (j : Int)
        · have HC := Lib.hid hcr
          have HS := Lib.hid (cornN_no hcr)
          clear hcr
          go_wp2_with (go_at_call 185; refine (i_isCorner s _ _ hs).mono ?_; rintro e w1 ⟨rfl, m, rfl⟩; rw [HC.out])
          go_roundw
          case rel => exact ⟨j + 1, N, A', c', xs, by omega, by go_num, rfl, by unfold Hid; rw [HS.out]; exact HN.out, by exact hown, below_drewN hb _⟩
          case measure => simp [intOf]; omega
        · have HC := Lib.hid hcr
          have HS := Lib.hid (cornN_yes hcr)
          have hone : ∀ u ∈ [Value.int .i64 (j : Int)], u.oneCell' = true := by intro u hu; simp at hu; subst hu; rfl
          clear hcr
          go_wp2_with (first | (go_at_call 185; refine (i_isCorner s _ _ hs).mono ?_; rintro e w1 ⟨rfl, m, rfl⟩; rw [HC.out]; obtain ⟨wq, hwq⟩ : ∃ W, W = wr.drewN m := ⟨_, rfl⟩; (have hownq : wq.ownsRow w.heap.size 3 1 (.slice A' N c') N xs := (by rw [hwq]; exact hown)); (have hbq : Below w.heap.size w wq := (by rw [hwq]; exact below_drewN hb _)); rw [← hwq]; clear hwq hown hb; have hbs := hbq.size) | (at_builtin; refine wpList_append_N _ rfl (.tmp 17) (.tmp 19) _ rfl w.heap.size 3 i0 _ 1 8 Try.underlying69 hi0 hz0 hz1 hz2 rfl (by omega) (.slice A' N c') N xs rfl (hownq.alloc _) (wq.heap.size + 1) (some ⟨wq.heap.size, 0, none⟩) 1 1 [Value.int .i64 (j : Int)] rfl (reads_one _ _) hone ?_ ?_ ?_ (N + 1) (xs ++ [Value.int .i64 (j : Int)]) rfl rfl ?_; (unfold maxLen; omega); omega; (simp; omega); intro A2 c2 w3 ho3 hb3))
          go_roundw
          case rel => exact ⟨j + 1, N + 1, A2, c2, _, by omega, by go_num, rfl, by unfold Hid; rw [HS.out, HN.out], ho3, bel⟩
          case measure => simp [intOf]; omega
      · have hje : j = s.size := by omega
        subst hje
        go_wp2
        go_ret
        exact ⟨A', c', (by rw [HR.out, ← HN.out]; rfl), hb⟩
theorem corn_neq {s : ByteArray} {K j : Nat} (hj : j = K + 1) (h : j < s.size) : cornerAny s (j : Int) = (s[K]'(by omega) != s[j]) := by
  unfold cornerAny
  rw [show ((j : Int) - 1) = (K : Int) by omega, chr_get s K (by omega), chr_get s j h]
  have : inB (j : Int) 1 ((s.size : Int) - 1) = true := inB_iff.2 (by omega)
  rw [this]; rfl
set_option maxHeartbeats 1600000 in
theorem s_CornersOf (s : ByteArray) (w : World) (hs : s.size ≤ 16777216) :
    Calls Try.prog 86 #[.string s] w fun e w' => ∃ A c, e = .returned (.slice A (cornL s) c) ∧ Below w.heap.size w w' := by
  have hq1 : ∀ W : World, Calls Try.prog 85 #[.string s] W fun e w' => e = .returned (.bool (isStrip s.data.toList)) ∧ W = w' := fun W => s_IsStrip s W (by unfold maxLen; omega)
  obtain ⟨i0, hi0, hz0, hz1, hz2⟩ := info_parts info_int
  cases hi : isStrip s.data.toList
  · rw [hi] at hq1
    have HQ1 := hide hq1
    have HR : Hid (cornL s = 0) := by unfold Hid cornL; rw [hi]; rfl
    clear hq1 hi
    go_enter Try.func86, Try.ntmps86
    go_wp2
    go_loopw [3, 4] (fun o i wr => ∃ (j : Nat) (A' : Option Addr) (c' : Nat), i = .int .i64 j ∧ o = .slice A' 0 c' ∧ Below w.heap.size w wr) (fun _ i _ => s.size - (intOf i).toNat)
    case atStart => exact ⟨1, _, _, rfl, rfl, bel⟩
    case round =>
      obtain ⟨j, A', c', rfl, rfl, hb⟩ := hrel
      by_cases hlt : j < s.size
      · go_wp2_with (go_at_call 85; refine (unhide HQ1 _).mono ?_; rintro e w' ⟨rfl, rfl⟩)
        go_ret
        exact ⟨A', c', (by rw [HR.out]; rfl), hb⟩
      · go_wp2
        go_ret
        exact ⟨A', c', (by rw [HR.out]; rfl), hb⟩
  · rw [hi] at hq1
    have HQ1 := hide hq1
    have HR : Hid (cornL s = cornN s s.size) := by unfold Hid cornL; rw [hi]; rfl
    have hp := strip_pos hi
    clear hq1 hi
    go_enter Try.func86, Try.ntmps86
    go_wp2
    go_loopw [3, 4] (fun o i wr => ∃ (j N : Nat) (A' : Option Addr) (c' : Nat) (xs : List Value), 1 ≤ j ∧ j ≤ s.size ∧ i = .int .i64 j ∧ o = .slice A' N c' ∧ Hid (N = cornN s j) ∧ wr.ownsRow w.heap.size 3 1 (.slice A' N c') N xs ∧ Below w.heap.size w wr) (fun _ i _ => s.size - (intOf i).toNat)
    case atStart =>
      have h := made_at (e := 3) (size := 1) w w.heap.size w.heap.size rfl (Nat.le_refl _)
      exact ⟨1, 0, _, _, _, Nat.le_refl _, by omega, rfl, rfl, (cornN_one s).symm, h, bel⟩
    case round =>
      obtain ⟨j, N, A', c', xs, hj1, hj, rfl, rfl, HN, hown, hb⟩ := hrel
      have hbs := hb.size
      have hNj : N ≤ j := by have := cornN_le s j; have := HN.out; omega
      by_cases hlt : j < s.size
      · obtain ⟨K, hKL⟩ : ∃ K, j = K + 1 := ⟨j - 1, by omega⟩
        have hK : K < s.size := by omega
        have e1 : ((j : Int) - 1) = (K : Int) := by omega
        have w1 : IntKind.i64.wrap ((j : Int) - 1) = (K : Int) := by rw [e1, IntWalk.i64_in _ (by omega)]
        have hcn := corn_neq hKL hlt
        have hi0' : (0 : Int) ≤ (K : Int) := Int.natCast_nonneg _
        have hi1' : (K : Int) < (s.size : Int) := by omega
        have hi2' : (j : Int) < (s.size : Int) := by omega
        have HKL := Lib.hid hKL
        have hone : ∀ u ∈ [Value.int .i64 (j : Int)], u.oneCell' = true := by intro u hu; simp at hu; subst hu; rfl
        by_cases hq : s[K] = s[j]
        · have hcr : cornerAny s (j : Int) = false := by rw [hcn, hq]; simp
          have hb1 : ((s[j].toNat : Int) == (s[K].toNat : Int)) = true := by rw [hq]; simp
          have hb2 : ((s[j].toNat : Int) != (s[K].toNat : Int)) = false := by rw [hq]; simp
          have HS := Lib.hid (cornN_no hcr)
          have HE := Lib.hid e1
          clear hcr hcn hq e1 hKL
          go_wp2_with (go_at_call 85; refine (unhide HQ1 _).mono ?_; rintro e w' ⟨rfl, rfl⟩)
          go_quiet (fail)
          go_wp2
          go_roundw
          case rel => exact ⟨j + 1, N, A', c', xs, by omega, by omega, by go_num, rfl, by unfold Hid; rw [HS.out]; exact HN.out, by exact hown, by first | exact below_drewN hb _ | exact hb⟩
          case measure => simp [intOf]; omega
        · have hcr : cornerAny s (j : Int) = true := by rw [hcn]; simpa using hq
          have hne : ¬ (s[j].toNat : Int) = (s[K].toNat : Int) := by
            intro h; apply hq; apply UInt8.toNat_inj.1; omega
          have hb1 : ((s[j].toNat : Int) == (s[K].toNat : Int)) = false := by rw [beq_eq_false_iff_ne]; exact hne
          have hb2 : ((s[j].toNat : Int) != (s[K].toNat : Int)) = true := by rw [bne_iff_ne]; exact hne
          have HS := Lib.hid (cornN_yes hcr)
          have HE := Lib.hid e1
          clear hcr hcn hq e1 hne hKL
          go_wp2_with (go_at_call 85; refine (unhide HQ1 _).mono ?_; rintro e w' ⟨rfl, rfl⟩)
          go_quiet (fail)
          obtain ⟨wq, hwq⟩ : ∃ W, W = wr.drewN nq := ⟨_, rfl⟩
          have hownq : wq.ownsRow w.heap.size 3 1 (.slice A' N c') N xs := by rw [hwq]; exact hown
          have hbq : Below w.heap.size w wq := by rw [hwq]; exact below_drewN hb _
          rw [← hwq]
          clear hwq hown hb
          have hbs := hbq.size
          go_wp2_with (at_builtin; refine wpList_append_N _ rfl (.tmp 24) (.tmp 26) _ rfl w.heap.size 3 i0 _ 1 8 Try.underlying69 hi0 hz0 hz1 hz2 rfl (by omega) (.slice A' N c') N xs rfl (hownq.alloc _) (wq.heap.size + 1) (some ⟨wq.heap.size, 0, none⟩) 1 1 [Value.int .i64 (j : Int)] rfl (reads_one _ _) hone ?_ ?_ ?_ (N + 1) (xs ++ [Value.int .i64 (j : Int)]) rfl rfl ?_; (unfold maxLen; omega); omega; (simp; omega); intro A2 c2 w3 ho3 hb3)
          go_roundw
          case rel => exact ⟨j + 1, N + 1, A2, c2, _, by omega, by omega, by go_num, rfl, by unfold Hid; rw [HS.out, HN.out], ho3, bel⟩
          case measure => simp [intOf]; omega
      · have hje : j = s.size := by omega
        subst hje
        go_wp2
        go_ret
        exact ⟨A', c', (by rw [HR.out, ← HN.out]; rfl), hb⟩
end Go.Proofs.Yteffbjddgdjkmaa
