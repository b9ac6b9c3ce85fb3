/- The strip above two strips: the contracts of both packages. -/
import Derived.Test.YteffbjddgdjkmaaArea1
namespace Go.Proofs.Yteffbjddgdjkmaa
open Go.ChangeShapes Go.WideShapes Go.ChangeAt Go.RowKit
set_option linter.unusedVariables false
set_option maxRecDepth 10000

def mx (a b : List UInt8) (k : Nat) : Nat := max (cnt 102 (a.take k)) (cnt 102 (b.take k))
def mixAt (a b : List UInt8) (k : Nat) : UInt8 := if mx a b k < mx a b (k + 1) then 102 else 100
def mixL (a b : List UInt8) (n : Nat) : List UInt8 := (List.range n).map (mixAt a b)
theorem mixL_len (a b : List UInt8) (n : Nat) : (mixL a b n).length = n := by simp [mixL]
theorem mixL_succ (a b : List UInt8) (n : Nat) : mixL a b (n + 1) = mixL a b n ++ [mixAt a b n] := by simp [mixL, List.range_succ]
def mixP (s t : ByteArray) (n : Nat) : ByteArray := ⟨(mixL s.data.toList t.data.toList n).toArray⟩
theorem mixP_size (s t : ByteArray) (n : Nat) : (mixP s t n).size = n := by
  show (mixL s.data.toList t.data.toList n).toArray.size = n
  rw [List.size_toArray, mixL_len]
theorem mixP_f {s t : ByteArray} {n : Nat} (h : mx s.data.toList t.data.toList n < mx s.data.toList t.data.toList (n + 1)) : mixP s t n ++ ⟨#[102]⟩ = mixP s t (n + 1) := by
  apply ba_ext
  unfold mixP
  rw [ByteArray.data_append, Array.toList_append, mixL_succ]
  simp [mixAt, h]
theorem mixP_d {s t : ByteArray} {n : Nat} (h : ¬ mx s.data.toList t.data.toList n < mx s.data.toList t.data.toList (n + 1)) : mixP s t n ++ ⟨#[100]⟩ = mixP s t (n + 1) := by
  apply ba_ext
  unfold mixP
  rw [ByteArray.data_append, Array.toList_append, mixL_succ]
  simp [mixAt, h]
def mixB (s t : ByteArray) : ByteArray := if sameFrame s.data.toList t.data.toList = true then mixP s t s.size else ⟨#[]⟩
theorem mixB_no {s t : ByteArray} (h : sameFrame s.data.toList t.data.toList = false) : mixB s t = ⟨#[]⟩ := by unfold mixB; rw [h]; rfl
theorem mixB_yes {s t : ByteArray} (h : sameFrame s.data.toList t.data.toList = true) : mixB s t = mixP s t s.size := by unfold mixB; rw [h]; rfl
theorem mixB_size (s t : ByteArray) (h : s.size ≤ 16777216) : (mixB s t).size ≤ 16777216 := by
  cases h2 : sameFrame s.data.toList t.data.toList
  · rw [mixB_no h2]; exact Nat.zero_le _
  · rw [mixB_yes h2, mixP_size]; exact h
theorem sameFrame_len {s t : ByteArray} (h : sameFrame s.data.toList t.data.toList = true) : t.size = s.size ∧ s.size ≤ 16 := by
  unfold sameFrame at h
  simp only [Bool.and_eq_true, beq_iff_eq] at h
  have h1 := strip_len h.1.1
  have h2 := strip_len h.1.2
  have e1 : s.data.toList.length = s.size := by simp
  have e2 : t.data.toList.length = t.size := by simp
  omega
theorem mx_le (a b : List UInt8) (k : Nat) : mx a b k ≤ k := by
  unfold mx
  have h1 := cnt_le 102 (a.take k)
  have h2 := cnt_le 102 (b.take k)
  have h3 : (a.take k).length ≤ k := List.length_take_le _ _
  have h4 : (b.take k).length ≤ k := List.length_take_le _ _
  omega
theorem mx_zero (a b : List UInt8) : mx a b 0 = 0 := by simp [mx, cnt]
set_option maxHeartbeats 400000 in
theorem i_forwards (s : ByteArray) (v : Int) (k : Nat) (w : World) (hv : v = (k : Int)) (hk : k ≤ s.size) (hs : s.size ≤ 16777216) :
    Calls Try.prog 196 #[.string s, .int .i64 v] w fun e w' => e = .returned (.int .i64 (cnt 102 (s.data.toList.take k))) ∧ w = w' := by
  subst hv
  have he : (s.extract 0 k).data.toList = s.data.toList.take k := by
    simp [ByteArray.data_extract, Array.toList_extract, List.extract_eq_take_drop]
  go_enter Try.func196, Try.ntmps196
  go_wp2_with (go_at_call 153; refine (strCount _ _ _).mono ?_; rintro e w' ⟨rfl, rfl⟩)
  go_ret
  exact ⟨rfl, rfl⟩
set_option maxHeartbeats 400000 in
theorem c_max (a b M : Nat) (w : World) (hM : max a b = M) :
    Calls Try.prog 188 #[.int .i64 a, .int .i64 b] w fun e w' => e = .returned (.int .i64 M) ∧ w = w' := by
  subst hM
  go_enter Try.func188, Try.ntmps188
  go_wp2
  go_ret
  exact ⟨ret_int (by omega), rfl⟩
set_option maxHeartbeats 1600000 in
theorem i_between (s t : ByteArray) (w : World) (hs : s.size ≤ 16777216) (ht : t.size ≤ 16777216) :
    Calls Try.prog 187 #[.string s, .string t, .func (.func 188) #[] #[]] w fun e w' => e = .returned (.string (mixB s t)) ∧ w = w' := by
  have hsf := fun (w : World) => i_SameFrame s t w hs ht
  cases h : sameFrame s.data.toList t.data.toList
  · simp only [h] at hsf
    have HSF := hide hsf
    have HR := Lib.hid (mixB_no h)
    clear hsf h
    go_enter Try.func187, Try.ntmps187
    go_wp2_with (go_at_call 157; refine (unhide HSF _).mono ?_; rintro e w' ⟨rfl, rfl⟩)
    go_ret
    exact ⟨ret_str HR.out.symm, rfl⟩
  · simp only [h] at hsf
    have HSF := hide hsf
    have HR := Lib.hid (mixB_yes h)
    obtain ⟨htn, hs16⟩ := sameFrame_len h
    clear hsf h
    go_enter Try.func187, Try.ntmps187
    go_wp2_with (go_at_call 157; refine (unhide HSF _).mono ?_; rintro e w' ⟨rfl, rfl⟩)
    go_loop [7, 8, 17] (fun o l i => ∃ j : Nat, j ≤ s.size ∧ i = .int .i64 j ∧ o = .string (mixP s t j) ∧ l = .int .i64 (mx s.data.toList t.data.toList j)) (fun _ _ i => s.size - (intOf i).toNat)
    case atStart => exact ⟨0, Nat.zero_le _, rfl, rfl, by rw [mx_zero]; rfl⟩
    case round =>
      obtain ⟨j, hj, rfl, rfl, rfl⟩ := hrel
      have hm1 := mx_le s.data.toList t.data.toList j
      have hm2 := mx_le s.data.toList t.data.toList (j + 1)
      have hsz : ¬ 9223372036854775807 < (mixP s t j).size + 1 := by rw [mixP_size]; omega
      by_cases hlt : j < s.size
      · by_cases hgt : mx s.data.toList t.data.toList j < mx s.data.toList t.data.toList (j + 1)
        · have HE := Lib.hid (mixP_f hgt)
          go_wp2_with (first | (go_at_call 196; refine (i_forwards _ _ (j + 1) _ (by push_cast; rfl) (by omega) (by omega)).mono ?_; rintro e w' ⟨rfl, rfl⟩) | (go_at_call 188; refine (c_max _ _ (mx s.data.toList t.data.toList (j + 1)) _ rfl).mono ?_; rintro e w' ⟨rfl, rfl⟩))
          go_round
          case rel => exact ⟨j + 1, by omega, by go_num, by rw [HE.out], rfl⟩
          case measure => simp [intOf]; omega
        · have HE := Lib.hid (mixP_d hgt)
          go_wp2_with (first | (go_at_call 196; refine (i_forwards _ _ (j + 1) _ (by push_cast; rfl) (by omega) (by omega)).mono ?_; rintro e w' ⟨rfl, rfl⟩) | (go_at_call 188; refine (c_max _ _ (mx s.data.toList t.data.toList (j + 1)) _ rfl).mono ?_; rintro e w' ⟨rfl, rfl⟩))
          go_round
          case rel => exact ⟨j + 1, by omega, by go_num, by rw [HE.out], rfl⟩
          case measure => simp [intOf]; omega
      · have hje : j = s.size := by omega
        subst hje
        go_wp2
        go_ret
        exact ⟨ret_str HR.out.symm, rfl⟩
set_option maxHeartbeats 400000 in
theorem i_UpperOf (s t : ByteArray) (w : World) (hs : s.size ≤ 16777216) (ht : t.size ≤ 16777216) :
    Calls Try.prog 152 #[.string s, .string t] w fun e w' => e = .returned (.string (mixB s t)) ∧ w = w' := by
  go_enter Try.func152, Try.ntmps152
  go_wp2_with (go_at_call 187; refine (i_between s t _ hs ht).mono ?_; rintro e w' ⟨rfl, rfl⟩)
  go_ret
  exact ⟨rfl, rfl⟩
theorem cnt_take_f {s : ByteArray} {j : Nat} (hj : j < s.size) (h : s[j] = 102) : cnt 102 (s.data.toList.take (j + 1)) = cnt 102 (s.data.toList.take j) + 1 := by
  rw [take_snoc s j hj, cnt_snoc, if_pos h]
theorem cnt_take_d {s : ByteArray} {j : Nat} (hj : j < s.size) (h : ¬ s[j] = 102) : cnt 102 (s.data.toList.take (j + 1)) = cnt 102 (s.data.toList.take j) := by
  rw [take_snoc s j hj, cnt_snoc, if_neg h, Nat.add_zero]
set_option maxHeartbeats 3200000 in
theorem s_l08Mix (s t : ByteArray) (w : World) (hs : s.size ≤ 16777216) (ht : t.size ≤ 16777216) :
    Calls Try.prog 156 #[.string s, .string t, .bool true] w fun e w' => e = .returned (.string (mixB s t)) ∧ w = w' := by
  have hsf := fun (w : World) => s_SameFrame s t w hs ht
  cases h : sameFrame s.data.toList t.data.toList
  · simp only [h] at hsf
    have HSF := hide hsf
    have HR := Lib.hid (mixB_no h)
    clear hsf h
    go_enter Try.func156, Try.ntmps156
    go_wp2_with (go_at_call 101; refine (unhide HSF _).mono ?_; rintro e w' ⟨rfl, rfl⟩)
    go_ret
    exact ⟨ret_str HR.out.symm, rfl⟩
  · simp only [h] at hsf
    have HSF := hide hsf
    have HR := Lib.hid (mixB_yes h)
    obtain ⟨htn, hs16⟩ := sameFrame_len h
    clear hsf h
    go_enter Try.func156, Try.ntmps156
    go_wp2_with (go_at_call 101; refine (unhide HSF _).mono ?_; rintro e w' ⟨rfl, rfl⟩)
    go_loop [7, 8, 9, 10, 11] (fun o l p q i => ∃ j P Q : Nat, j ≤ s.size ∧ i = .int .i64 j ∧ o = .string (mixP s t j) ∧ l = .int .i64 (mx s.data.toList t.data.toList j) ∧ p = .int .i64 P ∧ q = .int .i64 Q ∧ Hid (P = cnt 102 (s.data.toList.take j)) ∧ Hid (Q = cnt 102 (t.data.toList.take j))) (fun _ _ _ _ i => s.size - (intOf i).toNat)
    case atStart => exact ⟨0, 0, 0, Nat.zero_le _, rfl, rfl, by rw [mx_zero]; rfl, rfl, rfl, rfl, rfl⟩
    case round =>
      obtain ⟨j, P, Q, hj, rfl, rfl, rfl, rfl, rfl, HP, HQ⟩ := hrel
      have hm1 := mx_le s.data.toList t.data.toList j
      have hsz : ¬ 9223372036854775807 < (mixP s t j).size + 1 := by rw [mixP_size]; omega
      have hP16 : P ≤ 16777216 := by have h1 := cnt_le 102 (s.data.toList.take j); have h2 : (s.data.toList.take j).length ≤ j := List.length_take_le _ _; have := HP.out; omega
      have hQ16 : Q ≤ 16777216 := by have h1 := cnt_le 102 (t.data.toList.take j); have h2 : (t.data.toList.take j).length ≤ j := List.length_take_le _ _; have := HQ.out; omega
      by_cases hlt : j < s.size
      · have hlt2 : j < t.size := by omega
        by_cases hf : s[j] = 102
        · have hb1 : ((s[j].toNat : Int) == 102) = true := by rw [hf]; rfl
          have HP2 : Hid ((P + 1) = cnt 102 (s.data.toList.take (j + 1))) := by unfold Hid; rw [cnt_take_f hlt hf, HP.out]
          clear hf
          by_cases hg : t[j] = 102
          · have hb2 : ((t[j].toNat : Int) == 102) = true := by rw [hg]; rfl
            have HQ2 : Hid ((Q + 1) = cnt 102 (t.data.toList.take (j + 1))) := by unfold Hid; rw [cnt_take_f hlt2 hg, HQ.out]
            clear hg
            by_cases hgt : mx s.data.toList t.data.toList j < mx s.data.toList t.data.toList (j + 1)
            · have HE := Lib.hid (mixP_f hgt)
              have hmm : mx s.data.toList t.data.toList (j + 1) = max (P + 1) (Q + 1) := by unfold mx; rw [← HP2.out, ← HQ2.out]
              rw [hmm] at hgt
              have hcmp : decide (((mx s.data.toList t.data.toList j : Nat) : Int) < ((max (P + 1) (Q + 1) : Nat) : Int)) = true := decide_eq_true (by omega)
              generalize mx s.data.toList t.data.toList j = M at *
              have HMM := Lib.hid hmm
              clear hmm
              go_wp2
              go_round
              case rel => exact ⟨j + 1, (P + 1), (Q + 1), by omega, by go_num, by rw [HE.out], congrArg (Value.int .i64) (by have h9 := HMM.out; omega), by go_num, by go_num, HP2.out, HQ2.out⟩
              case measure => simp [intOf]; omega
            · have HE := Lib.hid (mixP_d hgt)
              have hmm : mx s.data.toList t.data.toList (j + 1) = max (P + 1) (Q + 1) := by unfold mx; rw [← HP2.out, ← HQ2.out]
              rw [hmm] at hgt
              have hcmp : decide (((mx s.data.toList t.data.toList j : Nat) : Int) < ((max (P + 1) (Q + 1) : Nat) : Int)) = false := decide_eq_false (by omega)
              generalize mx s.data.toList t.data.toList j = M at *
              have HMM := Lib.hid hmm
              clear hmm
              go_wp2
              go_round
              case rel => exact ⟨j + 1, (P + 1), (Q + 1), by omega, by go_num, by rw [HE.out], congrArg (Value.int .i64) (by have h9 := HMM.out; omega), by go_num, by go_num, HP2.out, HQ2.out⟩
              case measure => simp [intOf]; omega
          · have hb2 : ((t[j].toNat : Int) == 102) = false := by rw [beq_eq_false_iff_ne]; intro h; apply hg; apply UInt8.toNat_inj.1; show _ = 102; omega
            have HQ2 : Hid (Q = cnt 102 (t.data.toList.take (j + 1))) := by unfold Hid; rw [cnt_take_d hlt2 hg, HQ.out]
            clear hg
            by_cases hgt : mx s.data.toList t.data.toList j < mx s.data.toList t.data.toList (j + 1)
            · have HE := Lib.hid (mixP_f hgt)
              have hmm : mx s.data.toList t.data.toList (j + 1) = max (P + 1) Q := by unfold mx; rw [← HP2.out, ← HQ2.out]
              rw [hmm] at hgt
              have hcmp : decide (((mx s.data.toList t.data.toList j : Nat) : Int) < ((max (P + 1) Q : Nat) : Int)) = true := decide_eq_true (by omega)
              generalize mx s.data.toList t.data.toList j = M at *
              have HMM := Lib.hid hmm
              clear hmm
              go_wp2
              go_round
              case rel => exact ⟨j + 1, (P + 1), Q, by omega, by go_num, by rw [HE.out], congrArg (Value.int .i64) (by have h9 := HMM.out; omega), by go_num, by go_num, HP2.out, HQ2.out⟩
              case measure => simp [intOf]; omega
            · have HE := Lib.hid (mixP_d hgt)
              have hmm : mx s.data.toList t.data.toList (j + 1) = max (P + 1) Q := by unfold mx; rw [← HP2.out, ← HQ2.out]
              rw [hmm] at hgt
              have hcmp : decide (((mx s.data.toList t.data.toList j : Nat) : Int) < ((max (P + 1) Q : Nat) : Int)) = false := decide_eq_false (by omega)
              generalize mx s.data.toList t.data.toList j = M at *
              have HMM := Lib.hid hmm
              clear hmm
              go_wp2
              go_round
              case rel => exact ⟨j + 1, (P + 1), Q, by omega, by go_num, by rw [HE.out], congrArg (Value.int .i64) (by have h9 := HMM.out; omega), by go_num, by go_num, HP2.out, HQ2.out⟩
              case measure => simp [intOf]; omega
        · have hb1 : ((s[j].toNat : Int) == 102) = false := by rw [beq_eq_false_iff_ne]; intro h; apply hf; apply UInt8.toNat_inj.1; show _ = 102; omega
          have HP2 : Hid (P = cnt 102 (s.data.toList.take (j + 1))) := by unfold Hid; rw [cnt_take_d hlt hf, HP.out]
          clear hf
          by_cases hg : t[j] = 102
          · have hb2 : ((t[j].toNat : Int) == 102) = true := by rw [hg]; rfl
            have HQ2 : Hid ((Q + 1) = cnt 102 (t.data.toList.take (j + 1))) := by unfold Hid; rw [cnt_take_f hlt2 hg, HQ.out]
            clear hg
            by_cases hgt : mx s.data.toList t.data.toList j < mx s.data.toList t.data.toList (j + 1)
            · have HE := Lib.hid (mixP_f hgt)
              have hmm : mx s.data.toList t.data.toList (j + 1) = max P (Q + 1) := by unfold mx; rw [← HP2.out, ← HQ2.out]
              rw [hmm] at hgt
              have hcmp : decide (((mx s.data.toList t.data.toList j : Nat) : Int) < ((max P (Q + 1) : Nat) : Int)) = true := decide_eq_true (by omega)
              generalize mx s.data.toList t.data.toList j = M at *
              have HMM := Lib.hid hmm
              clear hmm
              go_wp2
              go_round
              case rel => exact ⟨j + 1, P, (Q + 1), by omega, by go_num, by rw [HE.out], congrArg (Value.int .i64) (by have h9 := HMM.out; omega), by go_num, by go_num, HP2.out, HQ2.out⟩
              case measure => simp [intOf]; omega
            · have HE := Lib.hid (mixP_d hgt)
              have hmm : mx s.data.toList t.data.toList (j + 1) = max P (Q + 1) := by unfold mx; rw [← HP2.out, ← HQ2.out]
              rw [hmm] at hgt
              have hcmp : decide (((mx s.data.toList t.data.toList j : Nat) : Int) < ((max P (Q + 1) : Nat) : Int)) = false := decide_eq_false (by omega)
              generalize mx s.data.toList t.data.toList j = M at *
              have HMM := Lib.hid hmm
              clear hmm
              go_wp2
              go_round
              case rel => exact ⟨j + 1, P, (Q + 1), by omega, by go_num, by rw [HE.out], congrArg (Value.int .i64) (by have h9 := HMM.out; omega), by go_num, by go_num, HP2.out, HQ2.out⟩
              case measure => simp [intOf]; omega
          · have hb2 : ((t[j].toNat : Int) == 102) = false := by rw [beq_eq_false_iff_ne]; intro h; apply hg; apply UInt8.toNat_inj.1; show _ = 102; omega
            have HQ2 : Hid (Q = cnt 102 (t.data.toList.take (j + 1))) := by unfold Hid; rw [cnt_take_d hlt2 hg, HQ.out]
            clear hg
            by_cases hgt : mx s.data.toList t.data.toList j < mx s.data.toList t.data.toList (j + 1)
            · have HE := Lib.hid (mixP_f hgt)
              have hmm : mx s.data.toList t.data.toList (j + 1) = max P Q := by unfold mx; rw [← HP2.out, ← HQ2.out]
              rw [hmm] at hgt
              have hcmp : decide (((mx s.data.toList t.data.toList j : Nat) : Int) < ((max P Q : Nat) : Int)) = true := decide_eq_true (by omega)
              generalize mx s.data.toList t.data.toList j = M at *
              have HMM := Lib.hid hmm
              clear hmm
              go_wp2
              go_round
              case rel => exact ⟨j + 1, P, Q, by omega, by go_num, by rw [HE.out], congrArg (Value.int .i64) (by have h9 := HMM.out; omega), by go_num, by go_num, HP2.out, HQ2.out⟩
              case measure => simp [intOf]; omega
            · have HE := Lib.hid (mixP_d hgt)
              have hmm : mx s.data.toList t.data.toList (j + 1) = max P Q := by unfold mx; rw [← HP2.out, ← HQ2.out]
              rw [hmm] at hgt
              have hcmp : decide (((mx s.data.toList t.data.toList j : Nat) : Int) < ((max P Q : Nat) : Int)) = false := decide_eq_false (by omega)
              generalize mx s.data.toList t.data.toList j = M at *
              have HMM := Lib.hid hmm
              clear hmm
              go_wp2
              go_round
              case rel => exact ⟨j + 1, P, Q, by omega, by go_num, by rw [HE.out], congrArg (Value.int .i64) (by have h9 := HMM.out; omega), by go_num, by go_num, HP2.out, HQ2.out⟩
              case measure => simp [intOf]; omega
      · have hje : j = s.size := by omega
        subst hje
        go_wp2
        go_ret
        exact ⟨ret_str HR.out.symm, rfl⟩
end Go.Proofs.Yteffbjddgdjkmaa
