/- The contracts of IsStrip, DownOf, ForwardOf, isSteps, l02Frame of both packages. -/
import Derived.Test.YteffbjddgdjkmaaStr1
import Derived.Test.YteffbjddgdjkmaaShelf
namespace Go.Proofs.Yteffbjddgdjkmaa
open Go.ChangeShapes Go.WideShapes Go.ChangeAt Go.RowKit

def downOf (l : List UInt8) : Int := if isStrip l = true then cnt 100 l else 0
def forwardOf (l : List UInt8) : Int := if isStrip l = true then cnt 102 l else 0
def isStepsB (n : Int) : Bool := inB n 1 8

theorem strCount (s : ByteArray) (c : UInt8) (w : World) :
    Calls Try.prog 153 #[.string s, .string ⟨#[c]⟩] w fun e w' => e = .returned (.int .i64 (cnt c s.data.toList)) ∧ w = w' :=
  (Try.strings_Count_one s c w).mono fun _ _ ⟨h1, h2⟩ => ⟨h1, h2.symm⟩

set_option maxHeartbeats 400000 in
theorem i_IsStrip (s : ByteArray) (w : World) (hs : s.size ≤ maxLen) :
    Calls Try.prog 97 #[.string s] w fun e w' => e = .returned (.bool (isStrip s.data.toList)) ∧ w = w' := by
  unfold maxLen at hs
  have hd := cnt_le 100 s.data.toList
  have hd2 := cnt_le 102 s.data.toList
  have h3 := cnt_two s.data.toList
  have hlen : s.data.toList.length = s.size := by simp
  rw [hlen] at hd hd2 h3
  cases hE : ((cnt 100 s.data.toList : Int) + (cnt 102 s.data.toList : Int) == (s.size : Int))
  · have HE : (cnt 100 s.data.toList + cnt 102 s.data.toList == s.data.toList.length) = false := by
      rw [beq_eq_false_iff_ne] at hE ⊢; omega
    have HE' := Lib.hid HE
    clear HE hlen
    go_enter Try.func97, Try.ntmps97
    go_wp2_with (first | (go_at_call 153; refine (strCount _ _ _).mono ?_; rintro e w' ⟨rfl, rfl⟩) | (go_at_call 81; refine (i_within _ _ _ _).mono ?_; rintro e w' ⟨rfl, rfl⟩))
    go_ret
    exact ⟨ret_bool (by unfold isStrip; rw [HE'.out]; rfl), rfl⟩
  · have HE : (cnt 100 s.data.toList + cnt 102 s.data.toList == s.data.toList.length) = true := by
      rw [beq_iff_eq] at hE ⊢; omega
    have HE' := Lib.hid HE
    clear HE hlen
    cases hA : inB (cnt 100 s.data.toList) 1 8 <;> cases hB : inB (cnt 102 s.data.toList) 1 8 <;>
    · go_enter Try.func97, Try.ntmps97
      go_wp2_with (first | (go_at_call 153; refine (strCount _ _ _).mono ?_; rintro e w' ⟨rfl, rfl⟩) | (go_at_call 81; refine (i_within _ _ _ _).mono ?_; rintro e w' ⟨rfl, rfl⟩))
      go_ret
      exact ⟨ret_bool (by unfold isStrip; rw [HE'.out, hA, hB]; rfl), rfl⟩

set_option maxHeartbeats 400000 in
theorem i_DownOf (s : ByteArray) (w : World) (hs : s.size ≤ maxLen) :
    Calls Try.prog 143 #[.string s] w fun e w' => e = .returned (.int .i64 (downOf s.data.toList)) ∧ w = w' := by
  cases hI : isStrip s.data.toList <;>
  · go_enter Try.func143, Try.ntmps143
    go_wp2_with (first | (go_at_call 153; refine (strCount _ _ _).mono ?_; rintro e w' ⟨rfl, rfl⟩) | (go_at_call 97; refine (i_IsStrip _ _ hs).mono ?_; rintro e w' ⟨rfl, rfl⟩))
    go_ret
    exact ⟨ret_int (by unfold downOf; rw [hI]; rfl), rfl⟩
set_option maxHeartbeats 400000 in
theorem i_ForwardOf (s : ByteArray) (w : World) (hs : s.size ≤ maxLen) :
    Calls Try.prog 144 #[.string s] w fun e w' => e = .returned (.int .i64 (forwardOf s.data.toList)) ∧ w = w' := by
  cases hI : isStrip s.data.toList <;>
  · go_enter Try.func144, Try.ntmps144
    go_wp2_with (first | (go_at_call 153; refine (strCount _ _ _).mono ?_; rintro e w' ⟨rfl, rfl⟩) | (go_at_call 97; refine (i_IsStrip _ _ hs).mono ?_; rintro e w' ⟨rfl, rfl⟩))
    go_ret
    exact ⟨ret_int (by unfold forwardOf; rw [hI]; rfl), rfl⟩
set_option maxHeartbeats 400000 in
theorem s_DownOf (s : ByteArray) (w : World) (hs : s.size ≤ maxLen) :
    Calls Try.prog 148 #[.string s] w fun e w' => e = .returned (.int .i64 (downOf s.data.toList)) ∧ w = w' := by
  cases hI : isStrip s.data.toList <;>
  · go_enter Try.func148, Try.ntmps148
    go_wp2_with (first | (go_at_call 154; refine (s_l02Count _ 100 _ hs).mono ?_; rintro e w' ⟨rfl, rfl⟩) | (go_at_call 85; refine (s_IsStrip _ _ hs).mono ?_; rintro e w' ⟨rfl, rfl⟩))
    go_ret
    exact ⟨ret_int (by unfold downOf; rw [hI]; rfl), rfl⟩
set_option maxHeartbeats 400000 in
theorem s_ForwardOf (s : ByteArray) (w : World) (hs : s.size ≤ maxLen) :
    Calls Try.prog 149 #[.string s] w fun e w' => e = .returned (.int .i64 (forwardOf s.data.toList)) ∧ w = w' := by
  cases hI : isStrip s.data.toList <;>
  · go_enter Try.func149, Try.ntmps149
    go_wp2_with (first | (go_at_call 154; refine (s_l02Count _ 102 _ hs).mono ?_; rintro e w' ⟨rfl, rfl⟩) | (go_at_call 85; refine (s_IsStrip _ _ hs).mono ?_; rintro e w' ⟨rfl, rfl⟩))
    go_ret
    exact ⟨ret_int (by unfold forwardOf; rw [hI]; rfl), rfl⟩
set_option maxHeartbeats 400000 in
theorem i_isSteps (n : Int) (w : World) :
    Calls Try.prog 103 #[.int .i64 n] w fun e w' => e = .returned (.bool (isStepsB n)) ∧ w = w' := by
  go_enter Try.func103, Try.ntmps103
  go_wp2_with (go_at_call 81; refine (i_within _ _ _ _).mono ?_; rintro e w' ⟨rfl, rfl⟩)
  go_ret
  exact ⟨rfl, rfl⟩
set_option maxHeartbeats 400000 in
theorem s_l02Frame (d f : Int) (w : World) :
    Calls Try.prog 130 #[.int .i64 d, .int .i64 f] w fun e w' => e = .returned (.bool (isStepsB d && isStepsB f)) ∧ w = w' := by
  cases h1 : inB d 1 8 <;> cases h2 : inB f 1 8 <;>
  · go_enter Try.func130, Try.ntmps130
    go_wp2_with (go_at_call 93; refine (s_l01In _ _ _ _).mono ?_; rintro e w' ⟨rfl, rfl⟩)
    go_ret
    exact ⟨ret_bool (by unfold isStepsB; rw [h1, h2]; rfl), rfl⟩
end Go.Proofs.Yteffbjddgdjkmaa
