/- The contracts of turnedAt, l10Swap, RaiseAt, LowerAt of both packages. -/
import Derived.Test.YteffbjddgdjkmaaFlip1
namespace Go.Proofs.Yteffbjddgdjkmaa
open Go.ChangeShapes Go.WideShapes Go.ChangeAt Go.RowKit
set_option linter.unusedVariables false
set_option maxRecDepth 10000

theorem swap_parts (s : ByteArray) (L K : Nat) (hKL : L = K + 1) (hL : L < s.size) :
    s.extract 0 K ++ s.extract L (L + 1) ++ s.extract K L ++ s.extract (L + 1) s.size = swapB s (L : Int) := by
  apply ba_ext
  subst hKL
  unfold swapB swapL
  have h : List.take (s.size - (K + 1 + 1)) (List.drop (K + 1 + 1) s.data.toList) = List.drop (K + 1 + 1) s.data.toList := List.take_of_length_le (by rw [List.length_drop]; simp)
  simp only [Int.toNat_natCast, ByteArray.data_append, Array.toList_append, ByteArray.data_extract, Array.toList_extract, List.extract_eq_take_drop]
  simp [h]


set_option maxHeartbeats 400000 in
theorem i_turnedAt (s : ByteArray) (L K : Nat) (w : World) (hs : s.size ≤ 16777216) (hKL : L = K + 1) (hL : L < s.size) :
    Calls Try.prog 169 #[.string s, .int .i64 L] w fun e w' => e = .returned (.string (swapB s (L : Int))) ∧ ∃ m, w' = w.drewN m := by
  have HP := Lib.hid (swap_parts s L K hKL hL)
  have hK : K < s.size := by omega
  have w1 : IntKind.i64.wrap ((L : Int) - 1) = (K : Int) := by rw [show (L : Int) - 1 = (K : Int) by omega, IntWalk.i64_in _ (by omega)]
  have w2 : IntKind.i64.wrap ((L : Int) + 1) = (L : Int) + 1 := by rw [IntWalk.i64_in _ (by omega)]
  have hle : K ≤ L := by omega
  have hle2 : L + 1 ≤ s.size := hL
  have HKL := Lib.hid hKL
  clear hKL
  go_enter Try.func169, Try.ntmps169
  go_wp2
  go_quiet (fail)
  go_wp2
  go_ret
  exact ⟨ret_str (by rw [← HP.out]), by first | exact ⟨0, rfl⟩ | exact ⟨_, rfl⟩ | exact ⟨_, World.drewN_drewN _ _ _⟩⟩

set_option maxHeartbeats 400000 in
theorem s_l10Swap (s : ByteArray) (L K : Nat) (w : World) (hs : s.size ≤ 16777216) (hKL : L = K + 1) (hL : L < s.size) :
    Calls Try.prog 89 #[.string s, .int .i64 L] w fun e w' => e = .returned (.string (swapB s (L : Int))) ∧ ∃ m, w' = w.drewN m := by
  have HP := Lib.hid (swap_parts s L K hKL hL)
  have hK : K < s.size := by omega
  have w1 : IntKind.i64.wrap ((L : Int) - 1) = (K : Int) := by rw [show (L : Int) - 1 = (K : Int) by omega, IntWalk.i64_in _ (by omega)]
  have w2 : IntKind.i64.wrap ((L : Int) + 1) = (L : Int) + 1 := by rw [IntWalk.i64_in _ (by omega)]
  have hle : K ≤ L := by omega
  have hle2 : L + 1 ≤ s.size := hL
  have HKL := Lib.hid hKL
  clear hKL
  go_enter Try.func89, Try.ntmps89
  go_wp2
  go_quiet (fail)
  go_wp2
  go_ret
  exact ⟨ret_str (by rw [← HP.out]), by first | exact ⟨0, rfl⟩ | exact ⟨_, rfl⟩ | exact ⟨_, World.drewN_drewN _ _ _⟩⟩

theorem cornerB_pos {c : UInt8} {s : ByteArray} {k : Int} (h : cornerB c s k = true) : ∃ L K : Nat, k = (L : Int) ∧ L = K + 1 ∧ L < s.size := by
  unfold cornerB cornerAny at h
  simp only [Bool.and_eq_true] at h
  have hb := inB_iff'.1 h.1.2.1
  exact ⟨k.toNat, k.toNat - 1, by omega, by omega, by omega⟩
def turnRes (c : UInt8) (s : ByteArray) (k : Int) : ByteArray := if cornerB c s k = true then swapB s k else s

set_option maxHeartbeats 400000 in
theorem i_RaiseAt (s : ByteArray) (k : Int) (w : World) (hs : s.size ≤ 16777216) :
    Calls Try.prog 124 #[.string s, .int .i64 k] w fun e w' => e = .returned (.tuple #[.string (turnRes 100 s k), .bool (cornerB 100 s k)]) ∧ ∃ m, w' = w.drewN m := by
  have hq : ∀ W : World, Calls Try.prog 121 #[.string s, .int .i64 k] W fun e w' => e = .returned (.bool (cornerB 100 s k)) ∧ ∃ m, w' = W.drewN m := fun W => i_CanRaise s k W hs
  cases hc : cornerB 100 s k
  · have HR : Hid (turnRes 100 s k = s) := by unfold Hid turnRes; rw [if_neg (by rw [hc]; decide)]
    rw [hc] at hq
    have HQ := hide hq
    clear hq hc
    go_enter Try.func124, Try.ntmps124
    go_wp2_with (go_at_call 121; refine (unhide HQ _).mono ?_; rintro e w' ⟨rfl, m, rfl⟩)
    refine bodyPost_ret (v := .tuple #[.string s, .bool false]) (by simp [results, Try.results124, go_sem, *]) rfl ?_
    rw [HR.out]
    exact ⟨rfl, by first | exact ⟨0, rfl⟩ | exact ⟨_, rfl⟩ | exact ⟨_, World.drewN_drewN _ _ _⟩⟩
  · have HR : Hid (turnRes 100 s k = swapB s k) := by unfold Hid turnRes; rw [if_pos hc]
    rw [hc] at hq
    have HQ := hide hq
    obtain ⟨L, K, rfl, hKL, hL⟩ := cornerB_pos hc
    clear hq hc
    have HKL := hide hKL
    clear hKL
    go_enter Try.func124, Try.ntmps124
    go_wp2_with (first | (go_at_call 121; refine (unhide HQ _).mono ?_; rintro e w' ⟨rfl, m, rfl⟩) | (go_at_call 169; refine (i_turnedAt s L K _ hs (unhide HKL) hL).mono ?_; rintro e w' ⟨rfl, m, rfl⟩))
    refine bodyPost_ret (v := .tuple #[.string (swapB s L), .bool true]) (by simp [results, Try.results124, go_sem, *]) rfl ?_
    rw [HR.out]
    exact ⟨rfl, by first | exact ⟨0, rfl⟩ | exact ⟨_, rfl⟩ | exact ⟨_, World.drewN_drewN _ _ _⟩⟩

set_option maxHeartbeats 400000 in
theorem i_LowerAt (s : ByteArray) (k : Int) (w : World) (hs : s.size ≤ 16777216) :
    Calls Try.prog 125 #[.string s, .int .i64 k] w fun e w' => e = .returned (.tuple #[.string (turnRes 102 s k), .bool (cornerB 102 s k)]) ∧ ∃ m, w' = w.drewN m := by
  have hq : ∀ W : World, Calls Try.prog 174 #[.string s, .int .i64 k] W fun e w' => e = .returned (.bool (cornerB 102 s k)) ∧ ∃ m, w' = W.drewN m := fun W => i_IsMountain s k W hs
  cases hc : cornerB 102 s k
  · have HR : Hid (turnRes 102 s k = s) := by unfold Hid turnRes; rw [if_neg (by rw [hc]; decide)]
    rw [hc] at hq
    have HQ := hide hq
    clear hq hc
    go_enter Try.func125, Try.ntmps125
    go_wp2_with (go_at_call 174; refine (unhide HQ _).mono ?_; rintro e w' ⟨rfl, m, rfl⟩)
    refine bodyPost_ret (v := .tuple #[.string s, .bool false]) (by simp [results, Try.results125, go_sem, *]) rfl ?_
    rw [HR.out]
    exact ⟨rfl, by first | exact ⟨0, rfl⟩ | exact ⟨_, rfl⟩ | exact ⟨_, World.drewN_drewN _ _ _⟩⟩
  · have HR : Hid (turnRes 102 s k = swapB s k) := by unfold Hid turnRes; rw [if_pos hc]
    rw [hc] at hq
    have HQ := hide hq
    obtain ⟨L, K, rfl, hKL, hL⟩ := cornerB_pos hc
    clear hq hc
    have HKL := hide hKL
    clear hKL
    go_enter Try.func125, Try.ntmps125
    go_wp2_with (first | (go_at_call 174; refine (unhide HQ _).mono ?_; rintro e w' ⟨rfl, m, rfl⟩) | (go_at_call 169; refine (i_turnedAt s L K _ hs (unhide HKL) hL).mono ?_; rintro e w' ⟨rfl, m, rfl⟩))
    refine bodyPost_ret (v := .tuple #[.string (swapB s L), .bool true]) (by simp [results, Try.results125, go_sem, *]) rfl ?_
    rw [HR.out]
    exact ⟨rfl, by first | exact ⟨0, rfl⟩ | exact ⟨_, rfl⟩ | exact ⟨_, World.drewN_drewN _ _ _⟩⟩

end Go.Proofs.Yteffbjddgdjkmaa
