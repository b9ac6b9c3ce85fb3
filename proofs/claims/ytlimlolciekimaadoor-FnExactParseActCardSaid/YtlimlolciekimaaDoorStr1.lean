/- Plain words on strings and the contracts of the string functions without memory. -/
import Derived.Test.YtlimlolciekimaaDoorRows
import Derived.WalkKit
import Derived.ProofKit
import Derived.OpenShut
import Derived.BigQuiet
import Derived.Deep.QuietTactic
import Derived.Lib.Hide
namespace Go.Proofs.YtlimlolciekimaaDoor
open Go.ChangeShapes Go.WideShapes Go.ChangeAt Go.RowKit

def inB (x a b : Int) : Bool := decide (a ≤ x) && decide (x ≤ b)
def cnt (c : UInt8) (l : List UInt8) : Nat := l.count c
theorem cnt_le (c : UInt8) (l : List UInt8) : cnt c l ≤ l.length := List.count_le_length
theorem cnt_snoc (c : UInt8) (l : List UInt8) (x : UInt8) : cnt c (l ++ [x]) = cnt c l + if x = c then 1 else 0 := by
  unfold cnt; rw [List.count_append, List.count_singleton]; by_cases h : x = c <;> simp [h]
theorem cnt_two (l : List UInt8) : cnt 100 l + cnt 102 l ≤ l.length := by
  induction l with
  | nil => simp [cnt]
  | cons x t ih =>
    unfold cnt at *
    rw [List.count_cons, List.count_cons, List.length_cons]
    by_cases h : x = 100
    · subst h; simp; omega
    · by_cases h2 : x = 102
      · subst h2; simp; omega
      · simp [h, h2]; omega
def isStrip (l : List UInt8) : Bool := (cnt 100 l + cnt 102 l == l.length) && (inB (cnt 100 l) 1 8 && inB (cnt 102 l) 1 8)
theorem take_snoc (s : ByteArray) (k : Nat) (h : k < s.size) : s.data.toList.take (k + 1) = s.data.toList.take k ++ [s[k]] := by
  rw [List.take_succ_eq_append_getElem (by simpa using h)]; rfl

theorem ba_ext {a b : ByteArray} (h : a.data.toList = b.data.toList) : a = b := by
  cases a; cases b; simp at h; rw [h]

theorem ret_int {k : IntKind} {a b : Int} (h : a = b) : Ending.returned (.int k a) = .returned (.int k b) := by rw [h]
theorem ret_str {a b : ByteArray} (h : a = b) : Ending.returned (.string a) = .returned (.string b) := by rw [h]
theorem ret_bool {a b : Bool} (h : a = b) : Ending.returned (.bool a) = .returned (.bool b) := by rw [h]

set_option maxHeartbeats 400000 in
theorem i_within (x a b : Int) (w : World) : Calls Tryd.prog 21 #[.int .i64 x, .int .i64 a, .int .i64 b] w fun e w' => e = .returned (.bool (inB x a b)) ∧ w = w' := by
  by_cases h : a ≤ x
  · go_enter Tryd.func21, Tryd.ntmps21
    go_wp2
    go_ret
    exact ⟨by simp [inB, h], rfl⟩
  · go_enter Tryd.func21, Tryd.ntmps21
    go_wp2
    go_ret
    exact ⟨ret_bool (by unfold inB; rw [decide_eq_false (by omega)]; rfl), rfl⟩

set_option maxHeartbeats 400000 in
theorem s_l01In (x a b : Int) (w : World) : Calls Tryd.prog 8 #[.int .i64 x, .int .i64 a, .int .i64 b] w fun e w' => e = .returned (.bool (inB x a b)) ∧ w = w' := by
  by_cases h : a ≤ x
  · go_enter Tryd.func8, Tryd.ntmps8
    go_wp2
    go_ret
    exact ⟨by simp [inB, h], rfl⟩
  · go_enter Tryd.func8, Tryd.ntmps8
    go_wp2
    go_ret
    exact ⟨ret_bool (by unfold inB; rw [decide_eq_false (by omega)]; rfl), rfl⟩



end Go.Proofs.YtlimlolciekimaaDoor
