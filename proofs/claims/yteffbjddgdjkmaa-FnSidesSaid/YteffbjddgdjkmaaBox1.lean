/- The contracts of hasBox and l11Range; the plain words of AddBox and TakeBox. -/
import Derived.Test.YteffbjddgdjkmaaFlip2
import Derived.Test.YteffbjddgdjkmaaCard4
namespace Go.Proofs.Yteffbjddgdjkmaa
open Go.ChangeShapes Go.WideShapes Go.ChangeAt Go.RowKit
set_option linter.unusedVariables false
set_option maxRecDepth 10000

def boxOk (d f : Int) (ss : List ByteArray) (n : Nat) (F L : Int) : Bool := (cardOk d f ss && inB F 0 L) && decide (L < (n : Int))
theorem boxOk_spec (d f : Int) (ss : List ByteArray) (n : Nat) (F L : Int) : boxOk d f ss n F L = ((cardOk d f ss && inB L 0 ((n : Int) - 1)) && inB F 0 L) := by
  unfold boxOk
  cases cardOk d f ss
  · rfl
  · have h : (inB F 0 L && decide (L < (n : Int))) = (inB L 0 ((n : Int) - 1) && inB F 0 L) := by
      rw [Bool.eq_iff_iff]
      simp only [Bool.and_eq_true, inB_iff, decide_eq_true_eq]
      omega
    simpa using h
/-- the strips after the first j of the box are turned -/
def flips (at_ : Int) (ss : List ByteArray) (F j : Nat) : List ByteArray := ss.mapIdx fun i s => if F ≤ i ∧ i < F + j then swapB s at_ else s
def allC (c : UInt8) (at_ : Int) (ss : List ByteArray) (F j : Nat) : Bool := ((ss.drop F).take j).all fun s => cornerB c s at_
theorem flips_len (at_ : Int) (ss : List ByteArray) (F j : Nat) : (flips at_ ss F j).length = ss.length := by simp [flips]
theorem flips_zero (at_ : Int) (ss : List ByteArray) (F : Nat) : flips at_ ss F 0 = ss := by
  apply List.ext_getElem (by simp [flips])
  intro i h1 h2
  simp [flips]; intro h3 h4; omega
theorem flips_step (at_ : Int) (ss : List ByteArray) (F j : Nat) (h : F + j < ss.length) : (flips at_ ss F j).set (F + j) (swapB ss[F + j] at_) = flips at_ ss F (j + 1) := by
  apply List.ext_getElem (by simp [flips])
  intro i h1 h2
  rw [List.getElem_set]
  simp only [flips, List.getElem_mapIdx]
  by_cases hi : F + j = i
  · subst hi
    simp
  · rw [if_neg hi]
    by_cases h3 : F ≤ i ∧ i < F + j
    · rw [if_pos h3, if_pos (by omega)]
    · rw [if_neg h3, if_neg (by omega)]
theorem allC_zero (c : UInt8) (at_ : Int) (ss : List ByteArray) (F : Nat) : allC c at_ ss F 0 = true := by simp [allC]
theorem allC_step (c : UInt8) (at_ : Int) (ss : List ByteArray) (F j : Nat) (h : F + j < ss.length) : allC c at_ ss F (j + 1) = (allC c at_ ss F j && cornerB c ss[F + j] at_) := by
  unfold allC
  rw [List.take_succ_eq_append_getElem (by rw [List.length_drop]; omega), List.all_append]
  simp
theorem allC_stop {c : UInt8} {at_ : Int} {ss : List ByteArray} {F j m : Nat} (h : F + j < ss.length) (hj : j < m) (hc : cornerB c ss[F + j] at_ = false) : allC c at_ ss F m = false := by
  unfold allC
  rw [List.all_eq_false]
  refine ⟨ss[F + j], ?_, by simp [hc]⟩
  rw [List.mem_take_iff_getElem]
  exact ⟨j, by rw [List.length_drop]; omega, by simp⟩
theorem swapB_size {s : ByteArray} {at_ : Int} (h : s.size ≤ 16777216) {c : UInt8} (hc : cornerB c s at_ = true) : (swapB s at_).size = s.size := by
  obtain ⟨L, K, rfl, hKL, hL⟩ := cornerB_pos hc
  subst hKL
  have h1 : s.data.toList.length = s.size := by simp
  show (swapL s.data.toList _).toArray.size = s.size
  simp only [List.size_toArray, swapL, List.length_append, List.length_take, List.length_drop, Int.toNat_natCast, h1]
  omega
def boxRes (c : UInt8) (d f : Int) (ss : List ByteArray) (F L at_ : Int) : List ByteArray × Bool :=
  if boxOk d f ss ss.length F L = true ∧ allC c at_ ss F.toNat (L.toNat + 1 - F.toNat) = true then (flips at_ ss F.toNat (L.toNat + 1 - F.toNat), true) else (ss, false)

set_option maxHeartbeats 400000 in
theorem i_hasBox (d f : Int) (B : Nat) (A : Option Addr) (n c : Nat) (ss : List ByteArray) (F L T : Int) (w : World) (hS : Strs w B A n ss) (hB : B ≤ w.heap.size) :
    Calls Try.prog 173 #[.agg #[.int .i64 d, .int .i64 f, .slice A n c], .agg #[.int .i64 F, .int .i64 L, .int .i64 T]] w fun e w' => e = .returned (.bool (boxOk d f ss n F L)) ∧ Below w.heap.size w w' := by
  have hn := hS.nb
  have hS2 := (hS.alloc hB (.cells #[.int .i64 d, .int .i64 f, .slice A n c] 26)).alloc (by simp; omega) (.cells #[.int .i64 F, .int .i64 L, .int .i64 T] 35)
  unfold boxOk
  cases hc : cardOk d f ss <;> cases hk : inB F 0 L <;>
  · go_enter Try.func173, Try.ntmps173
    go_wp2_with (first | (go_at_call 80; refine (i_CardOk _ _ _ _ _ ss _ (hS2.more (by simp; omega))).mono ?_; rintro e w1 ⟨rfl, hb1⟩; obtain ⟨hcb, hfb⟩ := bcell hb1; have hz_w1_0 : w.heap.size < w1.heap.size := (by have hzz := hb1.size; (try simp at hzz); omega); have hy_w1_0 := Nat.le_of_lt hz_w1_0; have hz_w1_1 : w.heap.size + 1 < w1.heap.size := (by have hzz := hb1.size; (try simp at hzz); omega); have hy_w1_1 := Nat.le_of_lt hz_w1_1) | (go_at_call 81; refine (i_within _ _ _ _).mono ?_; rintro e w' ⟨rfl, rfl⟩))
    go_ret
    exact ⟨by simp, bel⟩

set_option maxHeartbeats 400000 in
theorem s_l11Range (d f : Int) (B : Nat) (A : Option Addr) (n c : Nat) (ss : List ByteArray) (F L T : Int) (w : World) (hS : Strs w B A n ss) (hB : B ≤ w.heap.size) :
    Calls Try.prog 147 #[.agg #[.int .i64 d, .int .i64 f, .slice A n c], .agg #[.int .i64 F, .int .i64 L, .int .i64 T]] w fun e w' => e = .returned (.bool (boxOk d f ss n F L)) ∧ Below w.heap.size w w' := by
  have hn := hS.nb
  have hS2 := (hS.alloc hB (.cells #[.int .i64 d, .int .i64 f, .slice A n c] 26)).alloc (by simp; omega) (.cells #[.int .i64 F, .int .i64 L, .int .i64 T] 35)
  rw [boxOk_spec]
  cases hc : cardOk d f ss <;> cases hk : inB L 0 ((n : Int) - 1) <;>
  · go_enter Try.func147, Try.ntmps147
    go_wp2_with (first | (go_at_call 90; refine (s_CardOk _ _ _ _ _ ss _ (hS2.more (by simp; omega))).mono ?_; rintro e w1 ⟨rfl, hb1⟩; obtain ⟨hcb, hfb⟩ := bcell hb1; have hz_w1_0 : w.heap.size < w1.heap.size := (by have hzz := hb1.size; (try simp at hzz); omega); have hy_w1_0 := Nat.le_of_lt hz_w1_0; have hz_w1_1 : w.heap.size + 1 < w1.heap.size := (by have hzz := hb1.size; (try simp at hzz); omega); have hy_w1_1 := Nat.le_of_lt hz_w1_1) | (go_at_call 93; refine (s_l01In _ _ _ _).mono ?_; rintro e w' ⟨rfl, rfl⟩))
    go_ret
    exact ⟨by simp, bel⟩
end Go.Proofs.Yteffbjddgdjkmaa
