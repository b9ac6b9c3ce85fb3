/- The contracts of isPlain of steps, of both packages. -/
import Derived.Test.YteffbjddgdjkmaaCard5
namespace Go.Proofs.Yteffbjddgdjkmaa
open Go.ChangeShapes Go.WideShapes Go.ChangeAt Go.RowKit
set_option linter.unusedVariables false
set_option maxRecDepth 10000

def plainStep (K F L T I : Int) (b a : ByteArray) : Bool :=
  if K = 1 ∨ K = 2 then (I == 0) && (b.toList.isEmpty && a.toList.isEmpty) else if K = 3 then (F == 0) && ((L == 0) && (T == 0)) else false
theorem plain_1 (F L T I : Int) (b a : ByteArray) : plainStep 1 F L T I b a = ((I == 0) && (b.toList.isEmpty && a.toList.isEmpty)) := by simp [plainStep]
theorem plain_2 (F L T I : Int) (b a : ByteArray) : plainStep 2 F L T I b a = ((I == 0) && (b.toList.isEmpty && a.toList.isEmpty)) := by simp [plainStep]
theorem plain_3 (F L T I : Int) (b a : ByteArray) : plainStep 3 F L T I b a = ((F == 0) && ((L == 0) && (T == 0))) := by simp [plainStep]
theorem plain_no {K F L T I : Int} {b a : ByteArray} (h1 : K ≠ 1) (h2 : K ≠ 2) (h3 : K ≠ 3) : plainStep K F L T I b a = false := by simp [plainStep, h1, h2, h3]

set_option maxHeartbeats 1600000 in
theorem i_isPlain (K F L T I : Int) (b a : ByteArray) (w : World) :
    Calls Try.prog 128 #[.agg #[.int .i64 K, .int .i64 F, .int .i64 L, .int .i64 T, .int .i64 I, .string b, .string a]] w fun e w' => e = .returned (.bool (plainStep K F L T I b a)) ∧ Below w.heap.size w w' := by
  by_cases h1 : K = 1
  · subst h1
    rw [plain_1]
    cases hI : (I == 0) <;> cases hb : b.toList.isEmpty <;> cases ha : a.toList.isEmpty <;>
    · go_enter Try.func128, Try.ntmps128
      go_wp2
      go_ret
      refine ⟨ret_bool ?_, bel⟩; (first | rfl | (simp_all; done) | trace_state)
  · by_cases h2 : K = 2
    · subst h2
      rw [plain_2]
      clear h1
      cases hI : (I == 0) <;> cases hb : b.toList.isEmpty <;> cases ha : a.toList.isEmpty <;>
      · go_enter Try.func128, Try.ntmps128
        go_wp2
        go_ret
        refine ⟨ret_bool ?_, bel⟩; (first | rfl | (simp_all; done) | trace_state)
    · by_cases h3 : K = 3
      · subst h3
        rw [plain_3]
        clear h1 h2
        cases hF : (F == 0) <;> cases hL : (L == 0) <;> cases hT : (T == 0) <;>
        · go_enter Try.func128, Try.ntmps128
          go_wp2
          go_ret
          refine ⟨ret_bool ?_, bel⟩; (first | rfl | (simp_all; done) | trace_state)
      · have HP := Lib.hid (plain_no (F := F) (L := L) (T := T) (I := I) (b := b) (a := a) h1 h2 h3)
        have e1 : (K == 1) = false := by simpa using h1
        have e2 : (K == 2) = false := by simpa using h2
        have e3 : (K == 3) = false := by simpa using h3
        clear h1 h2 h3
        go_enter Try.func128, Try.ntmps128
        go_wp2
        go_ret
        exact ⟨ret_bool HP.out.symm, bel⟩
set_option maxHeartbeats 1600000 in
theorem s_l37Plain (K F L T I : Int) (b a : ByteArray) (w : World) :
    Calls Try.prog 216 #[.agg #[.int .i64 K, .int .i64 F, .int .i64 L, .int .i64 T, .int .i64 I, .string b, .string a]] w fun e w' => e = .returned (.bool (plainStep K F L T I b a)) ∧ Below w.heap.size w w' := by
  by_cases h1 : K = 1
  · subst h1
    rw [plain_1]
    cases hI : (I == 0) <;> cases hb : b.toList.isEmpty <;> cases ha : a.toList.isEmpty <;>
    · go_enter Try.func216, Try.ntmps216
      go_wp2
      go_ret
      refine ⟨ret_bool ?_, bel⟩; (first | rfl | (simp_all; done) | trace_state)
  · by_cases h2 : K = 2
    · subst h2
      rw [plain_2]
      clear h1
      cases hI : (I == 0) <;> cases hb : b.toList.isEmpty <;> cases ha : a.toList.isEmpty <;>
      · go_enter Try.func216, Try.ntmps216
        go_wp2
        go_ret
        refine ⟨ret_bool ?_, bel⟩; (first | rfl | (simp_all; done) | trace_state)
    · by_cases h3 : K = 3
      · subst h3
        rw [plain_3]
        clear h1 h2
        cases hF : (F == 0) <;> cases hL : (L == 0) <;> cases hT : (T == 0) <;>
        · go_enter Try.func216, Try.ntmps216
          go_wp2
          go_ret
          refine ⟨ret_bool ?_, bel⟩; (first | rfl | (simp_all; done) | trace_state)
      · have HP := Lib.hid (plain_no (F := F) (L := L) (T := T) (I := I) (b := b) (a := a) h1 h2 h3)
        have e1 : (K == 1) = false := by simpa using h1
        have e2 : (K == 2) = false := by simpa using h2
        have e3 : (K == 3) = false := by simpa using h3
        clear h1 h2 h3
        go_enter Try.func216, Try.ntmps216
        go_wp2
        go_ret
        exact ⟨ret_bool HP.out.symm, bel⟩
end Go.Proofs.Yteffbjddgdjkmaa
