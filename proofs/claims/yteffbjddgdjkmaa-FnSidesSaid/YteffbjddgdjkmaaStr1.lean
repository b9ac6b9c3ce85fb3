/- Plain words on strings and the contracts of the string functions without memory. -/
import Derived.Test.YteffbjddgdjkmaaRows
import Derived.WalkKit
import Derived.ProofKit
import Derived.OpenShut
import Derived.BigQuiet
import Derived.Deep.QuietTactic
import Derived.Lib.Hide
namespace Go.Proofs.Yteffbjddgdjkmaa
open Go.ChangeShapes Go.WideShapes Go.ChangeAt Go.RowKit

def inB (x a b : Int) : Bool := decide (a ≤ x) && decide (x ≤ b)
def cnt (c : UInt8) (l : List UInt8) : Nat := l.count c
theorem cnt_le (c : UInt8) (l : List UInt8) : cnt c l ≤ l.length := List.count_le_length
theorem cnt_snoc (c : UInt8) (l : List UInt8) (x : UInt8) : cnt c (l ++ [x]) = cnt c l + if x = c then 1 else 0 := by
  unfold cnt; rw [List.count_append, List.count_singleton]; by_cases h : x = c <;> simp [h]
theorem cnt_two (l : List UInt8) : cnt 100 l + cnt 102 l ≤ l.length := by
  induction l with
  | nil => simp [cnt]
  | cons x t ih =>
    unfold cnt at *
    rw [List.count_cons, List.count_cons, List.length_cons]
    by_cases h : x = 100
    · subst h; simp; omega
    · by_cases h2 : x = 102
      · subst h2; simp; omega
      · simp [h, h2]; omega
def isStrip (l : List UInt8) : Bool := (cnt 100 l + cnt 102 l == l.length) && (inB (cnt 100 l) 1 8 && inB (cnt 102 l) 1 8)
theorem take_snoc (s : ByteArray) (k : Nat) (h : k < s.size) : s.data.toList.take (k + 1) = s.data.toList.take k ++ [s[k]] := by
  rw [List.take_succ_eq_append_getElem (by simpa using h)]; rfl

theorem ba_ext {a b : ByteArray} (h : a.data.toList = b.data.toList) : a = b := by
  cases a; cases b; simp at h; rw [h]

theorem ret_int {k : IntKind} {a b : Int} (h : a = b) : Ending.returned (.int k a) = .returned (.int k b) := by rw [h]
theorem ret_str {a b : ByteArray} (h : a = b) : Ending.returned (.string a) = .returned (.string b) := by rw [h]
theorem ret_bool {a b : Bool} (h : a = b) : Ending.returned (.bool a) = .returned (.bool b) := by rw [h]

set_option maxHeartbeats 400000 in
theorem i_within (x a b : Int) (w : World) : Calls Try.prog 81 #[.int .i64 x, .int .i64 a, .int .i64 b] w fun e w' => e = .returned (.bool (inB x a b)) ∧ w = w' := by
  by_cases h : a ≤ x
  · go_enter Try.func81, Try.ntmps81
    go_wp2
    go_ret
    exact ⟨by simp [inB, h], rfl⟩
  · go_enter Try.func81, Try.ntmps81
    go_wp2
    go_ret
    exact ⟨ret_bool (by unfold inB; rw [decide_eq_false (by omega)]; rfl), rfl⟩

set_option maxHeartbeats 400000 in
theorem s_l01In (x a b : Int) (w : World) : Calls Try.prog 93 #[.int .i64 x, .int .i64 a, .int .i64 b] w fun e w' => e = .returned (.bool (inB x a b)) ∧ w = w' := by
  by_cases h : a ≤ x
  · go_enter Try.func93, Try.ntmps93
    go_wp2
    go_ret
    exact ⟨by simp [inB, h], rfl⟩
  · go_enter Try.func93, Try.ntmps93
    go_wp2
    go_ret
    exact ⟨ret_bool (by unfold inB; rw [decide_eq_false (by omega)]; rfl), rfl⟩

set_option maxHeartbeats 400000 in
theorem s_l02Count (s : ByteArray) (c : UInt8) (w : World) (hs : s.size ≤ maxLen) :
    Calls Try.prog 154 #[.string s, .int .u8 c.toNat] w fun e w' => e = .returned (.int .i64 (cnt c s.data.toList)) ∧ w = w' := by
  unfold maxLen at hs
  go_enter Try.func154, Try.ntmps154
  go_wp2
  go_loop [5, 6] (fun n i => ∃ k : Nat, k ≤ s.size ∧ i = .int .i64 k ∧ n = .int .i64 (cnt c (s.data.toList.take k))) (fun _ i => s.size - (intOf i).toNat)
  case atStart => exact ⟨0, Nat.zero_le _, rfl, rfl⟩
  case round =>
    obtain ⟨k, hk, rfl, rfl⟩ := hrel
    have hd := cnt_le c (s.data.toList.take k)
    have hl : (s.data.toList.take k).length ≤ k := List.length_take_le _ _
    by_cases hlt : k < s.size
    · have hts := take_snoc s k hlt
      have hsn := cnt_snoc c (s.data.toList.take k) s[k]
      rw [← hts] at hsn
      have HS := Lib.hid hsn
      clear hsn hts
      by_cases hc : s[k] = c
      · have hb : ((s[k].toNat : Int) == (c.toNat : Int)) = true := by rw [hc]; simp
        have HC := Lib.hid hc
        clear hc
        go_wp2
        go_round
        case rel => exact ⟨k + 1, by omega, by go_num, by rw [HS.out, if_pos HC.out]; go_num⟩
        case measure => simp [intOf]; omega
      · have hb : ((s[k].toNat : Int) == (c.toNat : Int)) = false := by
          rw [beq_eq_false_iff_ne]; intro h; exact hc (UInt8.toNat_inj.1 (by omega))
        have HC := Lib.hid hc
        clear hc
        go_wp2
        go_round
        case rel => exact ⟨k + 1, by omega, by go_num, by rw [HS.out, if_neg HC.out]; go_num⟩
        case measure => simp [intOf]; omega
    · go_wp2
      go_ret
      exact ⟨ret_int (by rw [List.take_of_length_le (by simp; omega)]), rfl⟩

set_option maxHeartbeats 400000 in
theorem s_IsStrip (s : ByteArray) (w : World) (hs : s.size ≤ maxLen) :
    Calls Try.prog 85 #[.string s] w fun e w' => e = .returned (.bool (isStrip s.data.toList)) ∧ w = w' := by
  unfold maxLen at hs
  go_enter Try.func85, Try.ntmps85
  go_wp2
  go_loop [3, 4, 5] (fun d f i => ∃ k : Nat, k ≤ s.size ∧ i = .int .i64 k ∧ d = .int .i64 (cnt 100 (s.data.toList.take k)) ∧ f = .int .i64 (cnt 102 (s.data.toList.take k)) ∧ k ≤ cnt 100 (s.data.toList.take k) + cnt 102 (s.data.toList.take k)) (fun _ _ i => s.size - (intOf i).toNat)
  case atStart => exact ⟨0, Nat.zero_le _, rfl, rfl, rfl, by simp⟩
  case round =>
    obtain ⟨k, hk, rfl, rfl, rfl, hsum⟩ := hrel
    have hd := cnt_le 100 (s.data.toList.take k)
    have hd2 := cnt_le 102 (s.data.toList.take k)
    have hl : (s.data.toList.take k).length ≤ k := List.length_take_le _ _
    by_cases hlt : k < s.size
    · have hts := take_snoc s k hlt
      have hsn := cnt_snoc 100 (s.data.toList.take k) s[k]
      have hsn2 := cnt_snoc 102 (s.data.toList.take k) s[k]
      rw [← hts] at hsn hsn2
      have HS := Lib.hid hsn
      have HS2 := Lib.hid hsn2
      have hts' := Lib.hid hts
      clear hsn hsn2 hts
      by_cases hc : s[k] = 100
      · have hb : ((s[k].toNat : Int) == 100) = true := by rw [hc]; rfl
        have HC := Lib.hid hc
        clear hc
        go_wp2
        go_round
        case rel =>
          have e1 := HS.out; have e2 := HS2.out
          rw [HC.out] at e1 e2
          simp at e1 e2
          exact ⟨k + 1, by omega, by go_num, by rw [e1]; go_num, by rw [e2], by omega⟩
        case measure => simp [intOf]; omega
      · have hb : ((s[k].toNat : Int) == 100) = false := by
          rw [beq_eq_false_iff_ne]; intro h; exact hc (UInt8.toNat_inj.1 (by show s[k].toNat = 100; omega))
        by_cases hc2 : s[k] = 102
        · have hb2 : ((s[k].toNat : Int) == 102) = true := by rw [hc2]; rfl
          have HC := Lib.hid hc2
          clear hc hc2
          go_wp2
          go_round
          case rel =>
            have e1 := HS.out; have e2 := HS2.out
            rw [HC.out] at e1 e2
            simp at e1 e2
            exact ⟨k + 1, by omega, by go_num, by rw [e1], by rw [e2]; go_num, by omega⟩
          case measure => simp [intOf]; omega
        · have hb2 : ((s[k].toNat : Int) == 102) = false := by
            rw [beq_eq_false_iff_ne]; intro h; exact hc2 (UInt8.toNat_inj.1 (by show s[k].toNat = 102; omega))
          have hfin : isStrip s.data.toList = false := by
            have h1 := cnt_two (s.data.toList.drop (k + 1))
            have e1 := HS.out; have e2 := HS2.out
            rw [if_neg hc] at e1; rw [if_neg hc2] at e2
            have a1 : cnt 100 s.data.toList = cnt 100 (s.data.toList.take (k + 1)) + cnt 100 (s.data.toList.drop (k + 1)) := by
              unfold cnt; rw [← List.count_append, List.take_append_drop]
            have a2 : cnt 102 s.data.toList = cnt 102 (s.data.toList.take (k + 1)) + cnt 102 (s.data.toList.drop (k + 1)) := by
              unfold cnt; rw [← List.count_append, List.take_append_drop]
            have h3 := cnt_two (s.data.toList.take k)
            have hlen : s.data.toList.length = s.size := by simp
            unfold isStrip
            rw [List.length_drop] at h1
            have : (cnt 100 s.data.toList + cnt 102 s.data.toList == s.data.toList.length) = false := by
              rw [beq_eq_false_iff_ne]; omega
            rw [this]; rfl
          have HF := Lib.hid hfin
          clear hc hc2 hfin
          go_wp2
          go_ret
          exact ⟨ret_bool HF.out.symm, rfl⟩
    · have hk' : k = s.size := by omega
      subst hk'
      have ht : s.data.toList.take s.size = s.data.toList := List.take_of_length_le (by simp)
      rw [ht] at hsum hd hd2 ⊢
      have h3 := cnt_two s.data.toList
      have hlen : s.data.toList.length = s.size := by simp
      have HE : Hid ((cnt 100 s.data.toList + cnt 102 s.data.toList == s.data.toList.length) = true) := by
        show _ = true
        rw [beq_iff_eq]; omega
      clear hlen ht hsum h3
      cases hA : inB (cnt 100 s.data.toList) 1 8 <;> cases hB : inB (cnt 102 s.data.toList) 1 8 <;> 
      · go_wp2_with (go_at_call 93; refine (s_l01In _ _ _ _).mono ?_; rintro e w' ⟨rfl, rfl⟩)
        go_ret
        exact ⟨ret_bool (by unfold isStrip; rw [HE.out, hA, hB]; rfl), rfl⟩

end Go.Proofs.Yteffbjddgdjkmaa
