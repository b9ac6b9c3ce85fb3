/- The contracts of IsStrip, DownOf, ForwardOf, isSteps, l02Frame of both packages. -/
import Derived.Test.YtdddglihomchfaaStr1
import Derived.Test.YtdddglihomchfaaShelf
namespace Go.Proofs.Ytdddglihomchfaa
open Go.ChangeShapes Go.WideShapes Go.ChangeAt Go.RowKit

def downOf (l : List UInt8) : Int := if isStrip l = true then cnt 100 l else 0
def forwardOf (l : List UInt8) : Int := if isStrip l = true then cnt 102 l else 0
def isStepsB (n : Int) : Bool := inB n 1 8

theorem strCount (s : ByteArray) (c : UInt8) (w : World) :
    Calls Try.prog 96 #[.string s, .string ⟨#[c]⟩] w fun e w' => e = .returned (.int .i64 (cnt c s.data.toList)) ∧ w = w' :=
  (Try.strings_Count_one s c w).mono fun _ _ ⟨h1, h2⟩ => ⟨h1, h2.symm⟩

set_option maxHeartbeats 400000 in
theorem i_IsStrip (s : ByteArray) (w : World) (hs : s.size ≤ maxLen) :
    Calls Try.prog 94 #[.string s] w fun e w' => e = .returned (.bool (isStrip s.data.toList)) ∧ w = w' := by
  unfold maxLen at hs
  have hd := cnt_le 100 s.data.toList
  have hd2 := cnt_le 102 s.data.toList
  have h3 := cnt_two s.data.toList
  have hlen : s.data.toList.length = s.size := by simp
  rw [hlen] at hd hd2 h3
  cases hE : ((cnt 100 s.data.toList : Int) + (cnt 102 s.data.toList : Int) == (s.size : Int))
  · have HE : (cnt 100 s.data.toList + cnt 102 s.data.toList == s.data.toList.length) = false := by
      rw [beq_eq_false_iff_ne] at hE ⊢; omega
    have HE' := Lib.hid HE
    clear HE hlen
    go_enter Try.func94, Try.ntmps94
    go_wp2_with (first | (go_at_call 96; refine (strCount _ _ _).mono ?_; rintro e w' ⟨rfl, rfl⟩) | (go_at_call 40; refine (i_within _ _ _ _).mono ?_; rintro e w' ⟨rfl, rfl⟩))
    go_ret
    exact ⟨ret_bool (by unfold isStrip; rw [HE'.out]; rfl), rfl⟩
  · have HE : (cnt 100 s.data.toList + cnt 102 s.data.toList == s.data.toList.length) = true := by
      rw [beq_iff_eq] at hE ⊢; omega
    have HE' := Lib.hid HE
    clear HE hlen
    cases hA : inB (cnt 100 s.data.toList) 1 8 <;> cases hB : inB (cnt 102 s.data.toList) 1 8 <;>
    · go_enter Try.func94, Try.ntmps94
      go_wp2_with (first | (go_at_call 96; refine (strCount _ _ _).mono ?_; rintro e w' ⟨rfl, rfl⟩) | (go_at_call 40; refine (i_within _ _ _ _).mono ?_; rintro e w' ⟨rfl, rfl⟩))
      go_ret
      exact ⟨ret_bool (by unfold isStrip; rw [HE'.out, hA, hB]; rfl), rfl⟩

set_option maxHeartbeats 400000 in
theorem i_DownOf (s : ByteArray) (w : World) (hs : s.size ≤ maxLen) :
    Calls Try.prog 84 #[.string s] w fun e w' => e = .returned (.int .i64 (downOf s.data.toList)) ∧ w = w' := by
  cases hI : isStrip s.data.toList <;>
  · go_enter Try.func84, Try.ntmps84
    go_wp2_with (first | (go_at_call 96; refine (strCount _ _ _).mono ?_; rintro e w' ⟨rfl, rfl⟩) | (go_at_call 94; refine (i_IsStrip _ _ hs).mono ?_; rintro e w' ⟨rfl, rfl⟩))
    go_ret
    exact ⟨ret_int (by unfold downOf; rw [hI]; rfl), rfl⟩
set_option maxHeartbeats 400000 in
theorem i_ForwardOf (s : ByteArray) (w : World) (hs : s.size ≤ maxLen) :
    Calls Try.prog 85 #[.string s] w fun e w' => e = .returned (.int .i64 (forwardOf s.data.toList)) ∧ w = w' := by
  cases hI : isStrip s.data.toList <;>
  · go_enter Try.func85, Try.ntmps85
    go_wp2_with (first | (go_at_call 96; refine (strCount _ _ _).mono ?_; rintro e w' ⟨rfl, rfl⟩) | (go_at_call 94; refine (i_IsStrip _ _ hs).mono ?_; rintro e w' ⟨rfl, rfl⟩))
    go_ret
    exact ⟨ret_int (by unfold forwardOf; rw [hI]; rfl), rfl⟩
set_option maxHeartbeats 400000 in
theorem s_DownOf (s : ByteArray) (w : World) (hs : s.size ≤ maxLen) :
    Calls Try.prog 88 #[.string s] w fun e w' => e = .returned (.int .i64 (downOf s.data.toList)) ∧ w = w' := by
  cases hI : isStrip s.data.toList <;>
  · go_enter Try.func88, Try.ntmps88
    go_wp2_with (first | (go_at_call 97; refine (s_l02Count _ 100 _ hs).mono ?_; rintro e w' ⟨rfl, rfl⟩) | (go_at_call 63; refine (s_IsStrip _ _ hs).mono ?_; rintro e w' ⟨rfl, rfl⟩))
    go_ret
    exact ⟨ret_int (by unfold downOf; rw [hI]; rfl), rfl⟩
set_option maxHeartbeats 400000 in
theorem s_ForwardOf (s : ByteArray) (w : World) (hs : s.size ≤ maxLen) :
    Calls Try.prog 89 #[.string s] w fun e w' => e = .returned (.int .i64 (forwardOf s.data.toList)) ∧ w = w' := by
  cases hI : isStrip s.data.toList <;>
  · go_enter Try.func89, Try.ntmps89
    go_wp2_with (first | (go_at_call 97; refine (s_l02Count _ 102 _ hs).mono ?_; rintro e w' ⟨rfl, rfl⟩) | (go_at_call 63; refine (s_IsStrip _ _ hs).mono ?_; rintro e w' ⟨rfl, rfl⟩))
    go_ret
    exact ⟨ret_int (by unfold forwardOf; rw [hI]; rfl), rfl⟩
set_option maxHeartbeats 400000 in
theorem i_isSteps (n : Int) (w : World) :
    Calls Try.prog 86 #[.int .i64 n] w fun e w' => e = .returned (.bool (isStepsB n)) ∧ w = w' := by
  go_enter Try.func86, Try.ntmps86
  go_wp2_with (go_at_call 40; refine (i_within _ _ _ _).mono ?_; rintro e w' ⟨rfl, rfl⟩)
  go_ret
  exact ⟨rfl, rfl⟩
set_option maxHeartbeats 400000 in
theorem s_l02Frame (d f : Int) (w : World) :
    Calls Try.prog 87 #[.int .i64 d, .int .i64 f] w fun e w' => e = .returned (.bool (isStepsB d && isStepsB f)) ∧ w = w' := by
  cases h1 : inB d 1 8 <;> cases h2 : inB f 1 8 <;>
  · go_enter Try.func87, Try.ntmps87
    go_wp2_with (go_at_call 35; refine (s_l01In _ _ _ _).mono ?_; rintro e w' ⟨rfl, rfl⟩)
    go_ret
    exact ⟨ret_bool (by unfold isStepsB; rw [h1, h2]; rfl), rfl⟩
end Go.Proofs.Ytdddglihomchfaa
