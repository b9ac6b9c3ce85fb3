/- FnExactOpenCopy: the contracts behind it, part 1. -/
import Derived.Below
import Derived.BigQuiet
import Derived.Deep.AppendLies
import Derived.Deep.DeepCutAuto
import Derived.Deep.Draws
import Derived.Deep.QuietTactic
import Derived.Deep.RegionHeld3
import Derived.Deep.RegionLaw
import Derived.Deep.RegionWith
import Derived.Deep.Slices
import Derived.Deep.Upon
import Derived.Ground.Names2Prog
import Derived.Ground.SlgnProg
import Derived.HandedShaped
import Derived.Laws.OwnMore
import Derived.Lib.Hide
import Derived.Lib.RowBridge
import Derived.Lib.SmallJoins
import Derived.Lib.Strings
import Derived.Maps.AppendAt
import Derived.OpenShut
import Derived.OwnWalk
import Derived.ProofKit
import Derived.RegionTactic
import Derived.Shelf.LaysM
import Derived.Shelf.Slices.Cells
import Derived.Shelf.Slices.Clone
import Derived.Shelf.Slices.ReverseS
import Derived.Shelf.SlicesE.Clone
import Derived.Shelf.Strings.Count
import Derived.Shelf.Strings.RuneCount
import Derived.Shelf.Strings.Search1
import Derived.Shelf.Strings.Search2
import Derived.Shelf.Strings.Search3
import Derived.Shelf.Strings.Shaped
import Derived.Shelf.Strings.Split
import Derived.Shelf.Utf8.RuneCount
import Derived.SliceStrings
import Derived.Test.YtdddglihomchfaaProg
import Derived.WalkKit
import Derived.WalkLawsBesides
import Derived.WalkSmall
import Derived.WalkSpells
import Derived.Test.YtdddglihomchfaaRows
namespace Go.Proofs.Ytdddglihomchfaa
open Go.ChangeShapes Go.WideShapes Go.ChangeAt Go.RowKit
def inB (x a b : Int) : Bool := decide (a ≤ x) && decide (x ≤ b)
def cnt (c : UInt8) (l : List UInt8) : Nat := l.count c
theorem cnt_le (c : UInt8) (l : List UInt8) : cnt c l ≤ l.length := List.count_le_length
theorem cnt_snoc (c : UInt8) (l : List UInt8) (x : UInt8) : cnt c (l ++ [x]) = cnt c l + if x = c then 1 else 0 := by
  unfold cnt; rw [List.count_append, List.count_singleton]; by_cases h : x = c <;> simp [h]
theorem cnt_two (l : List UInt8) : cnt 100 l + cnt 102 l ≤ l.length := by
  induction l with
  | nil => simp [cnt]
  | cons x t ih =>
    unfold cnt at *
    rw [List.count_cons, List.count_cons, List.length_cons]
    by_cases h : x = 100
    · subst h; simp; omega
    · by_cases h2 : x = 102
      · subst h2; simp; omega
      · simp [h, h2]; omega
def isStrip (l : List UInt8) : Bool := (cnt 100 l + cnt 102 l == l.length) && (inB (cnt 100 l) 1 8 && inB (cnt 102 l) 1 8)
theorem take_snoc (s : ByteArray) (k : Nat) (h : k < s.size) : s.data.toList.take (k + 1) = s.data.toList.take k ++ [s[k]] := by
  rw [List.take_succ_eq_append_getElem (by simpa using h)]; rfl
theorem ba_ext {a b : ByteArray} (h : a.data.toList = b.data.toList) : a = b := by
  cases a; cases b; simp at h; rw [h]
theorem ret_int {k : IntKind} {a b : Int} (h : a = b) : Ending.returned (.int k a) = .returned (.int k b) := by rw [h]
theorem ret_str {a b : ByteArray} (h : a = b) : Ending.returned (.string a) = .returned (.string b) := by rw [h]
theorem ret_bool {a b : Bool} (h : a = b) : Ending.returned (.bool a) = .returned (.bool b) := by rw [h]
set_option maxHeartbeats 400000 in
theorem i_within (x a b : Int) (w : World) : Calls Try.prog 40 #[.int .i64 x, .int .i64 a, .int .i64 b] w fun e w' => e = .returned (.bool (inB x a b)) ∧ w = w' := by
  by_cases h : a ≤ x
  · go_enter Try.func40, Try.ntmps40
    go_wp2
    go_ret
    exact ⟨by simp [inB, h], rfl⟩
  · go_enter Try.func40, Try.ntmps40
    go_wp2
    go_ret
    exact ⟨ret_bool (by unfold inB; rw [decide_eq_false (by omega)]; rfl), rfl⟩
set_option maxHeartbeats 400000 in
theorem s_l01In (x a b : Int) (w : World) : Calls Try.prog 35 #[.int .i64 x, .int .i64 a, .int .i64 b] w fun e w' => e = .returned (.bool (inB x a b)) ∧ w = w' := by
  by_cases h : a ≤ x
  · go_enter Try.func35, Try.ntmps35
    go_wp2
    go_ret
    exact ⟨by simp [inB, h], rfl⟩
  · go_enter Try.func35, Try.ntmps35
    go_wp2
    go_ret
    exact ⟨ret_bool (by unfold inB; rw [decide_eq_false (by omega)]; rfl), rfl⟩
set_option maxHeartbeats 400000 in
theorem s_l02Count (s : ByteArray) (c : UInt8) (w : World) (hs : s.size ≤ maxLen) :
    Calls Try.prog 97 #[.string s, .int .u8 c.toNat] w fun e w' => e = .returned (.int .i64 (cnt c s.data.toList)) ∧ w = w' := by
  unfold maxLen at hs
  go_enter Try.func97, Try.ntmps97
  go_wp2
  go_loop [5, 6] (fun n i => ∃ k : Nat, k ≤ s.size ∧ i = .int .i64 k ∧ n = .int .i64 (cnt c (s.data.toList.take k))) (fun _ i => s.size - (intOf i).toNat)
  case atStart => exact ⟨0, Nat.zero_le _, rfl, rfl⟩
  case round =>
    obtain ⟨k, hk, rfl, rfl⟩ := hrel
    have hd := cnt_le c (s.data.toList.take k)
    have hl : (s.data.toList.take k).length ≤ k := List.length_take_le _ _
    by_cases hlt : k < s.size
    · have hts := take_snoc s k hlt
      have hsn := cnt_snoc c (s.data.toList.take k) s[k]
      rw [← hts] at hsn
      have HS := Lib.hid hsn
      clear hsn hts
      by_cases hc : s[k] = c
      · have hb : ((s[k].toNat : Int) == (c.toNat : Int)) = true := by rw [hc]; simp
        have HC := Lib.hid hc
        clear hc
        go_wp2
        go_round
        case rel => exact ⟨k + 1, by omega, by go_num, by rw [HS.out, if_pos HC.out]; go_num⟩
        case measure => simp [intOf]; omega
      · have hb : ((s[k].toNat : Int) == (c.toNat : Int)) = false := by
          rw [beq_eq_false_iff_ne]; intro h; exact hc (UInt8.toNat_inj.1 (by omega))
        have HC := Lib.hid hc
        clear hc
        go_wp2
        go_round
        case rel => exact ⟨k + 1, by omega, by go_num, by rw [HS.out, if_neg HC.out]; go_num⟩
        case measure => simp [intOf]; omega
    · go_wp2
      go_ret
      exact ⟨ret_int (by rw [List.take_of_length_le (by simp; omega)]), rfl⟩
set_option maxHeartbeats 400000 in
theorem s_IsStrip (s : ByteArray) (w : World) (hs : s.size ≤ maxLen) :
    Calls Try.prog 63 #[.string s] w fun e w' => e = .returned (.bool (isStrip s.data.toList)) ∧ w = w' := by
  unfold maxLen at hs
  go_enter Try.func63, Try.ntmps63
  go_wp2
  go_loop [3, 4, 5] (fun d f i => ∃ k : Nat, k ≤ s.size ∧ i = .int .i64 k ∧ d = .int .i64 (cnt 100 (s.data.toList.take k)) ∧ f = .int .i64 (cnt 102 (s.data.toList.take k)) ∧ k ≤ cnt 100 (s.data.toList.take k) + cnt 102 (s.data.toList.take k)) (fun _ _ i => s.size - (intOf i).toNat)
  case atStart => exact ⟨0, Nat.zero_le _, rfl, rfl, rfl, by simp⟩
  case round =>
    obtain ⟨k, hk, rfl, rfl, rfl, hsum⟩ := hrel
    have hd := cnt_le 100 (s.data.toList.take k)
    have hd2 := cnt_le 102 (s.data.toList.take k)
    have hl : (s.data.toList.take k).length ≤ k := List.length_take_le _ _
    by_cases hlt : k < s.size
    · have hts := take_snoc s k hlt
      have hsn := cnt_snoc 100 (s.data.toList.take k) s[k]
      have hsn2 := cnt_snoc 102 (s.data.toList.take k) s[k]
      rw [← hts] at hsn hsn2
      have HS := Lib.hid hsn
      have HS2 := Lib.hid hsn2
      have hts' := Lib.hid hts
      clear hsn hsn2 hts
      by_cases hc : s[k] = 100
      · have hb : ((s[k].toNat : Int) == 100) = true := by rw [hc]; rfl
        have HC := Lib.hid hc
        clear hc
        go_wp2
        go_round
        case rel =>
          have e1 := HS.out; have e2 := HS2.out
          rw [HC.out] at e1 e2
          simp at e1 e2
          exact ⟨k + 1, by omega, by go_num, by rw [e1]; go_num, by rw [e2], by omega⟩
        case measure => simp [intOf]; omega
      · have hb : ((s[k].toNat : Int) == 100) = false := by
          rw [beq_eq_false_iff_ne]; intro h; exact hc (UInt8.toNat_inj.1 (by show s[k].toNat = 100; omega))
        by_cases hc2 : s[k] = 102
        · have hb2 : ((s[k].toNat : Int) == 102) = true := by rw [hc2]; rfl
          have HC := Lib.hid hc2
          clear hc hc2
          go_wp2
          go_round
          case rel =>
            have e1 := HS.out; have e2 := HS2.out
            rw [HC.out] at e1 e2
            simp at e1 e2
            exact ⟨k + 1, by omega, by go_num, by rw [e1], by rw [e2]; go_num, by omega⟩
          case measure => simp [intOf]; omega
        · have hb2 : ((s[k].toNat : Int) == 102) = false := by
            rw [beq_eq_false_iff_ne]; intro h; exact hc2 (UInt8.toNat_inj.1 (by show s[k].toNat = 102; omega))
          have hfin : isStrip s.data.toList = false := by
            have h1 := cnt_two (s.data.toList.drop (k + 1))
            have e1 := HS.out; have e2 := HS2.out
            rw [if_neg hc] at e1; rw [if_neg hc2] at e2
            have a1 : cnt 100 s.data.toList = cnt 100 (s.data.toList.take (k + 1)) + cnt 100 (s.data.toList.drop (k + 1)) := by
              unfold cnt; rw [← List.count_append, List.take_append_drop]
            have a2 : cnt 102 s.data.toList = cnt 102 (s.data.toList.take (k + 1)) + cnt 102 (s.data.toList.drop (k + 1)) := by
              unfold cnt; rw [← List.count_append, List.take_append_drop]
            have h3 := cnt_two (s.data.toList.take k)
            have hlen : s.data.toList.length = s.size := by simp
            unfold isStrip
            rw [List.length_drop] at h1
            have : (cnt 100 s.data.toList + cnt 102 s.data.toList == s.data.toList.length) = false := by
              rw [beq_eq_false_iff_ne]; omega
            rw [this]; rfl
          have HF := Lib.hid hfin
          clear hc hc2 hfin
          go_wp2
          go_ret
          exact ⟨ret_bool HF.out.symm, rfl⟩
    · have hk' : k = s.size := by omega
      subst hk'
      have ht : s.data.toList.take s.size = s.data.toList := List.take_of_length_le (by simp)
      rw [ht] at hsum hd hd2 ⊢
      have h3 := cnt_two s.data.toList
      have hlen : s.data.toList.length = s.size := by simp
      have HE : Hid ((cnt 100 s.data.toList + cnt 102 s.data.toList == s.data.toList.length) = true) := by
        show _ = true
        rw [beq_iff_eq]; omega
      clear hlen ht hsum h3
      cases hA : inB (cnt 100 s.data.toList) 1 8 <;> cases hB : inB (cnt 102 s.data.toList) 1 8 <;> 
      · go_wp2_with (go_at_call 35; refine (s_l01In _ _ _ _).mono ?_; rintro e w' ⟨rfl, rfl⟩)
        go_ret
        exact ⟨ret_bool (by unfold isStrip; rw [HE.out, hA, hB]; rfl), rfl⟩
end Go.Proofs.Ytdddglihomchfaa
namespace Go.Proofs
open Go.Shelf
def Try.lays195_ren : Go.Shelf.Ren := ⟨fun | 195 => 100 | n => n, fun | 9 => 9 | 3 => 3 | 0 => 0 | 4 => 4 | n => n, fun | n => n⟩
def Try.lays217_ren : Go.Shelf.Ren := ⟨fun | 217 => 104 | 266 => 108 | n => n, fun | 9 => 9 | 5 => 5 | 3 => 3 | n => n, fun | n => n⟩
def Try.lays224_ren : Go.Shelf.Ren := ⟨fun | 224 => 106 | n => n, fun | 3 => 3 | n => n, fun | n => n⟩
def Try.lays314_ren : Go.Shelf.Ren := ⟨fun | 314 => 109 | n => n, fun | 9 => 9 | 51 => 112 | 3 => 3 | 4 => 4 | 5 => 5 | 46 => 109 | n => n, fun | n => n⟩
def Try.lays267_ren : Go.Shelf.Ren := ⟨fun | 267 => 107 | 314 => 109 | n => n, fun | 9 => 9 | 3 => 3 | 146 => 113 | 51 => 112 | 4 => 4 | 5 => 5 | 46 => 109 | n => n, fun | n => n⟩
def Try.lays219_ren : Go.Shelf.Ren := ⟨fun | 219 => 103 | 217 => 104 | 225 => 105 | 224 => 106 | 267 => 107 | 266 => 108 | 314 => 109 | n => n, fun | 9 => 9 | 3 => 3 | 4 => 4 | 5 => 5 | 46 => 109 | 146 => 113 | 51 => 112 | n => n, fun | 1 => 0 | n => n⟩
def Try.lays143_ren : Go.Shelf.Ren := ⟨fun | 143 => 102 | 219 => 103 | 217 => 104 | 225 => 105 | 224 => 106 | 267 => 107 | 266 => 108 | 314 => 109 | n => n, fun | 9 => 9 | 3 => 3 | 4 => 4 | 5 => 5 | 46 => 109 | 146 => 113 | 51 => 112 | n => n, fun | 1 => 0 | n => n⟩
def Try.lays138_ren : Go.Shelf.Ren := ⟨fun | 138 => 96 | 195 => 100 | 218 => 101 | 143 => 102 | 219 => 103 | 217 => 104 | 225 => 105 | 224 => 106 | 267 => 107 | 266 => 108 | 314 => 109 | n => n, fun | 9 => 9 | 3 => 3 | 4 => 4 | 5 => 5 | 0 => 0 | 46 => 109 | 146 => 113 | 51 => 112 | n => n, fun | 1 => 0 | n => n⟩
theorem Try.lays138 : Go.Proofs.Lays.n138 Try.prog Try.lays138_ren := {
  mixed := by kernel_rfl
  f138 := Try.func96.trans (congrArg some (by kernel_rfl))
  f143 := Try.func102.trans (congrArg some (by kernel_rfl))
  f195 := Try.func100.trans (congrArg some (by kernel_rfl))
  f217 := Try.func104.trans (congrArg some (by kernel_rfl))
  f218 := Try.func101.trans (congrArg some (by kernel_rfl))
  f219 := Try.func103.trans (congrArg some (by kernel_rfl))
  f224 := Try.func106.trans (congrArg some (by kernel_rfl))
  f225 := Try.func105.trans (congrArg some (by kernel_rfl))
  f266 := Try.func108.trans (congrArg some (by kernel_rfl))
  f267 := Try.func107.trans (congrArg some (by kernel_rfl))
  f314 := Try.func109.trans (congrArg some (by kernel_rfl))
  t0 := Try.underlying0
  a0 := Try.isAgg0
  z0 := Try.sizeOf0
  v0 := Try.zeroValue0
  t3 := Try.underlying3
  a3 := Try.isAgg3
  z3 := Try.sizeOf3
  v3 := Try.zeroValue3
  t4 := Try.underlying4
  a4 := Try.isAgg4
  z4 := Try.sizeOf4
  v4 := Try.zeroValue4
  t5 := Try.underlying5
  a5 := Try.isAgg5
  z5 := Try.sizeOf5
  v5 := Try.zeroValue5
  t9 := Try.underlying9
  a9 := Try.isAgg9
  z9 := Try.sizeOf9
  v9 := Try.zeroValue9
  t46 := Try.underlying109
  a46 := Try.isAgg109
  z46 := Try.sizeOf109
  v46 := Try.zeroValue109
  t51 := Try.underlying112
  a51 := Try.isAgg112
  z51 := Try.sizeOf112
  v51 := Try.zeroValue112
  t146 := Try.underlying113
  a146 := Try.isAgg113
  z146 := Try.sizeOf113
  v146 := Try.zeroValue113
  g1 := by kernel_rfl }
open Go.RowKit Go.Lib in
theorem Try.strings_Count_one (s : ByteArray) (c : UInt8) (w : World) :
    Calls Try.prog 96 #[.string s, .string ⟨#[c]⟩] w fun e w' => e = .returned (.int .i64 (Lib.countByte s.data.toList c)) ∧ w' = w := Any.strings_Count_one Try.lays138 s c w
def Try.laysM219_ren : Go.Shelf.Ren := ⟨fun | 219 => 103 | 217 => 104 | 225 => 105 | 224 => 106 | 267 => 107 | 266 => 108 | 314 => 109 | n => n, fun | 9 => 9 | 3 => 3 | 4 => 4 | 5 => 5 | 46 => 109 | 146 => 113 | 51 => 112 | n => n, fun | 1 => 0 | n => n⟩
def Try.laysM143_ren : Go.Shelf.Ren := ⟨fun | 143 => 102 | 219 => 103 | 217 => 104 | 225 => 105 | 224 => 106 | 267 => 107 | 266 => 108 | 314 => 109 | n => n, fun | 9 => 9 | 3 => 3 | 4 => 4 | 5 => 5 | 46 => 109 | 146 => 113 | 51 => 112 | n => n, fun | 1 => 0 | n => n⟩
def Try.laysM138_ren : Go.Shelf.Ren := ⟨fun | 138 => 96 | 195 => 100 | 218 => 101 | 143 => 102 | 219 => 103 | 217 => 104 | 225 => 105 | 224 => 106 | 267 => 107 | 266 => 108 | 314 => 109 | n => n, fun | 9 => 9 | 3 => 3 | 4 => 4 | 5 => 5 | 0 => 0 | 46 => 109 | 146 => 113 | 51 => 112 | n => n, fun | 1 => 0 | n => n⟩
def Try.laysNm217_ren : Go.Shelf.Ren := ⟨fun | 17 => 79 | n => n, fun | 24 => 22 | 9 => 9 | 3 => 3 | 4 => 4 | 0 => 0 | n => n, fun | n => n⟩
def Try.laysNm216_ren : Go.Shelf.Ren := ⟨fun | 16 => 73 | n => n, fun | 24 => 22 | 9 => 9 | 4 => 4 | n => n, fun | n => n⟩
def Try.laysSlE041_f73_ren : Go.Shelf.Ren := ⟨fun | 41 => 73 | n => n, fun | 22 => 22 | 23 => 9 | 4 => 4 | n => n, fun | n => n⟩
end Go.Proofs
namespace Go.Proofs.Ytdddglihomchfaa
open Go.ChangeShapes Go.WideShapes Go.ChangeAt Go.RowKit
def downOf (l : List UInt8) : Int := if isStrip l = true then cnt 100 l else 0
def forwardOf (l : List UInt8) : Int := if isStrip l = true then cnt 102 l else 0
def isStepsB (n : Int) : Bool := inB n 1 8
theorem strCount (s : ByteArray) (c : UInt8) (w : World) :
    Calls Try.prog 96 #[.string s, .string ⟨#[c]⟩] w fun e w' => e = .returned (.int .i64 (cnt c s.data.toList)) ∧ w = w' :=
  (Try.strings_Count_one s c w).mono fun _ _ ⟨h1, h2⟩ => ⟨h1, h2.symm⟩
set_option maxHeartbeats 400000 in
theorem i_IsStrip (s : ByteArray) (w : World) (hs : s.size ≤ maxLen) :
    Calls Try.prog 94 #[.string s] w fun e w' => e = .returned (.bool (isStrip s.data.toList)) ∧ w = w' := by
  unfold maxLen at hs
  have hd := cnt_le 100 s.data.toList
  have hd2 := cnt_le 102 s.data.toList
  have h3 := cnt_two s.data.toList
  have hlen : s.data.toList.length = s.size := by simp
  rw [hlen] at hd hd2 h3
  cases hE : ((cnt 100 s.data.toList : Int) + (cnt 102 s.data.toList : Int) == (s.size : Int))
  · have HE : (cnt 100 s.data.toList + cnt 102 s.data.toList == s.data.toList.length) = false := by
      rw [beq_eq_false_iff_ne] at hE ⊢; omega
    have HE' := Lib.hid HE
    clear HE hlen
    go_enter Try.func94, Try.ntmps94
    go_wp2_with (first | (go_at_call 96; refine (strCount _ _ _).mono ?_; rintro e w' ⟨rfl, rfl⟩) | (go_at_call 40; refine (i_within _ _ _ _).mono ?_; rintro e w' ⟨rfl, rfl⟩))
    go_ret
    exact ⟨ret_bool (by unfold isStrip; rw [HE'.out]; rfl), rfl⟩
  · have HE : (cnt 100 s.data.toList + cnt 102 s.data.toList == s.data.toList.length) = true := by
      rw [beq_iff_eq] at hE ⊢; omega
    have HE' := Lib.hid HE
    clear HE hlen
    cases hA : inB (cnt 100 s.data.toList) 1 8 <;> cases hB : inB (cnt 102 s.data.toList) 1 8 <;>
    · go_enter Try.func94, Try.ntmps94
      go_wp2_with (first | (go_at_call 96; refine (strCount _ _ _).mono ?_; rintro e w' ⟨rfl, rfl⟩) | (go_at_call 40; refine (i_within _ _ _ _).mono ?_; rintro e w' ⟨rfl, rfl⟩))
      go_ret
      exact ⟨ret_bool (by unfold isStrip; rw [HE'.out, hA, hB]; rfl), rfl⟩
set_option maxHeartbeats 400000 in
theorem i_DownOf (s : ByteArray) (w : World) (hs : s.size ≤ maxLen) :
    Calls Try.prog 84 #[.string s] w fun e w' => e = .returned (.int .i64 (downOf s.data.toList)) ∧ w = w' := by
  cases hI : isStrip s.data.toList <;>
  · go_enter Try.func84, Try.ntmps84
    go_wp2_with (first | (go_at_call 96; refine (strCount _ _ _).mono ?_; rintro e w' ⟨rfl, rfl⟩) | (go_at_call 94; refine (i_IsStrip _ _ hs).mono ?_; rintro e w' ⟨rfl, rfl⟩))
    go_ret
    exact ⟨ret_int (by unfold downOf; rw [hI]; rfl), rfl⟩
set_option maxHeartbeats 400000 in
theorem i_ForwardOf (s : ByteArray) (w : World) (hs : s.size ≤ maxLen) :
    Calls Try.prog 85 #[.string s] w fun e w' => e = .returned (.int .i64 (forwardOf s.data.toList)) ∧ w = w' := by
  cases hI : isStrip s.data.toList <;>
  · go_enter Try.func85, Try.ntmps85
    go_wp2_with (first | (go_at_call 96; refine (strCount _ _ _).mono ?_; rintro e w' ⟨rfl, rfl⟩) | (go_at_call 94; refine (i_IsStrip _ _ hs).mono ?_; rintro e w' ⟨rfl, rfl⟩))
    go_ret
    exact ⟨ret_int (by unfold forwardOf; rw [hI]; rfl), rfl⟩
set_option maxHeartbeats 400000 in
theorem s_DownOf (s : ByteArray) (w : World) (hs : s.size ≤ maxLen) :
    Calls Try.prog 88 #[.string s] w fun e w' => e = .returned (.int .i64 (downOf s.data.toList)) ∧ w = w' := by
  cases hI : isStrip s.data.toList <;>
  · go_enter Try.func88, Try.ntmps88
    go_wp2_with (first | (go_at_call 97; refine (s_l02Count _ 100 _ hs).mono ?_; rintro e w' ⟨rfl, rfl⟩) | (go_at_call 63; refine (s_IsStrip _ _ hs).mono ?_; rintro e w' ⟨rfl, rfl⟩))
    go_ret
    exact ⟨ret_int (by unfold downOf; rw [hI]; rfl), rfl⟩
set_option maxHeartbeats 400000 in
theorem s_ForwardOf (s : ByteArray) (w : World) (hs : s.size ≤ maxLen) :
    Calls Try.prog 89 #[.string s] w fun e w' => e = .returned (.int .i64 (forwardOf s.data.toList)) ∧ w = w' := by
  cases hI : isStrip s.data.toList <;>
  · go_enter Try.func89, Try.ntmps89
    go_wp2_with (first | (go_at_call 97; refine (s_l02Count _ 102 _ hs).mono ?_; rintro e w' ⟨rfl, rfl⟩) | (go_at_call 63; refine (s_IsStrip _ _ hs).mono ?_; rintro e w' ⟨rfl, rfl⟩))
    go_ret
    exact ⟨ret_int (by unfold forwardOf; rw [hI]; rfl), rfl⟩
set_option maxHeartbeats 400000 in
theorem i_isSteps (n : Int) (w : World) :
    Calls Try.prog 86 #[.int .i64 n] w fun e w' => e = .returned (.bool (isStepsB n)) ∧ w = w' := by
  go_enter Try.func86, Try.ntmps86
  go_wp2_with (go_at_call 40; refine (i_within _ _ _ _).mono ?_; rintro e w' ⟨rfl, rfl⟩)
  go_ret
  exact ⟨rfl, rfl⟩
set_option maxHeartbeats 400000 in
theorem s_l02Frame (d f : Int) (w : World) :
    Calls Try.prog 87 #[.int .i64 d, .int .i64 f] w fun e w' => e = .returned (.bool (isStepsB d && isStepsB f)) ∧ w = w' := by
  cases h1 : inB d 1 8 <;> cases h2 : inB f 1 8 <;>
  · go_enter Try.func87, Try.ntmps87
    go_wp2_with (go_at_call 35; refine (s_l01In _ _ _ _).mono ?_; rintro e w' ⟨rfl, rfl⟩)
    go_ret
    exact ⟨ret_bool (by unfold isStepsB; rw [h1, h2]; rfl), rfl⟩
end Go.Proofs.Ytdddglihomchfaa
namespace Go.Proofs.Ytdddglihomchfaa
open Go.ChangeShapes Go.WideShapes Go.ChangeAt Go.RowKit
theorem block_of_add (a : Addr) (n : Nat) : (a.add n).block = a.block := by unfold Addr.add; split <;> rfl
def Reads (w : World) (B size : Nat) (A : Option Addr) (n : Nat) (xs : List Value) : Prop :=
  xs.length = n * size ∧ (0 < n → ∃ ad, A = some ad ∧ ad.block < B ∧ ∀ j u, xs[j]? = some u → w.cell? (ad.add j) = some u)
section
variable {w w' : World} {B B' size n : Nat} {A : Option Addr} {xs : List Value}
theorem Reads.none_ : Reads w B size A 0 [] := ⟨by simp, fun h => absurd h (by omega)⟩
theorem Reads.at_ {k : Nat} (h : Reads w B 1 A n xs) (hk : k < n) : ∃ ad u, A = some ad ∧ ad.block < B ∧ xs[k]? = some u ∧ w.cell? (ad.add k) = some u := by
  obtain ⟨ad, e, hb, hc⟩ := h.2 (by omega)
  have hl : k < xs.length := by have := h.1; omega
  exact ⟨ad, xs[k], e, hb, List.getElem?_eq_getElem hl, hc k _ (List.getElem?_eq_getElem hl)⟩
theorem Reads.keep (h : Reads w B size A n xs) (hk : ∀ p : Addr, p.block < B → w'.cell? p = w.cell? p) : Reads w' B size A n xs :=
  ⟨h.1, fun hn => by
    obtain ⟨ad, e, hb, hc⟩ := h.2 hn
    exact ⟨ad, e, hb, fun j u hu => (hk _ (by rw [block_of_add]; exact hb)).trans (hc j u hu)⟩⟩
theorem Reads.more (h : Reads w B size A n xs) (hB : B ≤ B') : Reads w B' size A n xs :=
  ⟨h.1, fun hn => by
    obtain ⟨ad, e, hb, hc⟩ := h.2 hn
    exact ⟨ad, e, by omega, hc⟩⟩
theorem Reads.below (h : Reads w B size A n xs) (hb : Below B w w') : Reads w' B size A n xs := h.keep fun _ hp => hb.cell hp
theorem Reads.drew (h : Reads w B size A n xs) : Reads w.drew B size A n xs := h
theorem Reads.alloc (h : Reads w B size A n xs) (hB : B ≤ w.heap.size) (o : Obj) : Reads (w.alloc o) B size A n xs := h.keep fun p hp => World.cell?_alloc_lt w o p (by omega)
theorem Reads.of_own {base : Nat} {e : TypeId} {c : Nat} (h : w.ownsRow base e size (.slice A n c) n xs) : Reads w w.heap.size size A n xs := by
  refine ⟨h.1, fun hn => ?_⟩
  obtain ⟨g, cap, hv, _, hlt⟩ := h.form hn
  have hA : A = some ⟨g, 0, none⟩ := by injection hv
  subst hA
  exact ⟨_, rfl, hlt, h.cells (g := g) rfl⟩
end
theorem hide {p : Prop} (h : p) : Hid p := h
theorem unhide {p : Prop} (h : Hid p) : p := h
section
variable {P : Program} (w : World)
theorem run_append_of_nil (base : Nat) (t ty e : TypeId) (i : TypeInfo) (size : Nat) (ht : P.underlying t = some (.slice e)) (hi : P.info? e = some i)
    (v : Value) (n : Nat) (xs : List Value) (hown : w.ownsRow base e size v n xs) (c : Nat) : (Builtin.append_ #[t, t] ty #[v, .slice none 0 c]).run P w = .ok v w := by
  rcases hown.2 with ⟨rfl, rfl⟩ | ⟨g, cap, cur, rfl, _, _, hnc, _⟩
  · simp [Builtin.append_, run_underlying ht, sizeOf, typeInfo, hi, Builtin.lenOf, Builtin.firstCells]
  · simp [Builtin.append_, run_underlying ht, sizeOf, typeInfo, hi, Builtin.lenOf, Builtin.firstCells, hnc, storeCells]
theorem run_append_any (base : Nat) (t ty e : TypeId) (i : TypeInfo) (z : Value) (size bytes : Nat) (ht : P.underlying t = some (.slice e)) (hi : P.info? e = some i) (hz : i.zero = some z)
    (hsize : i.size = size) (hby : i.bytes = bytes) (hzs : z.cells.size = size) (hsz : 0 < size)
    (v : Value) (n : Nat) (xs : List Value) (hown : w.ownsRow base e size v n xs)
    (B : Nat) (A : Option Addr) (m c : Nat) (news : List Value) (hr : Reads w B size A m news) (h1 : ∀ u ∈ news, u.oneCell' = true)
    (h63 : n + m ≤ maxLen) (hbytes : (n + m) * bytes ≤ 140737488355328) (hbase : base ≤ w.heap.size) :
    ∃ v' w', (Builtin.append_ #[t, t] ty #[v, .slice A m c]).run P w = .ok v' w' ∧ w'.ownsRow base e size v' (n + m) (xs ++ news) ∧ w.grownBy w' v.ownBlock ∧
      (v'.ownBlock = v.ownBlock ∨ v'.ownBlock = some w.heap.size) := by
  rcases A with _ | ad
  · have hm : m = 0 := by
      rcases Nat.eq_zero_or_pos m with h0 | h0
      · exact h0
      · obtain ⟨ad, h, _⟩ := hr.2 h0
        cases h
    subst hm
    have hn : news = [] := List.eq_nil_of_length_eq_zero (by simpa using hr.1)
    subst hn
    exact ⟨v, w, run_append_of_nil w base t ty e i size ht hi v n xs hown c, by simpa using hown, World.grownBy.refl w _, .inl rfl⟩
  · have hcells : ∀ j u, news[j]? = some u → w.cell? (ad.add j) = some u := by
      intro j u hu
      rcases Nat.eq_zero_or_pos m with h0 | h0
      · subst h0
        have hn : news = [] := List.eq_nil_of_length_eq_zero (by simpa using hr.1)
        subst hn
        simp at hu
      · obtain ⟨ad', h, _, hc⟩ := hr.2 h0
        injection h with h
        subst h
        exact hc j u hu
    obtain ⟨v', w', hrun, h2, h3, _, h5⟩ := run_append_own_at (P := P) w base t ty e i z size bytes ht hi hz hsize hby hzs hsz v n xs hown ad m c news hr.1 hcells h1 h63 hbytes hbase
    exact ⟨v', w', hrun, h2, h3, h5⟩
theorem wp_append_any {o : Oper} {a : Act} {K : Act → World → Prop} {Q : Exit → Act → World → Prop} (s x : Operand) (t : TypeId)
    (ho : o.op = .call { callee := .builtin .append, args := #[s, x], argTypes := #[t, t] })
    (base : Nat) (e : TypeId) (i : TypeInfo) (z : Value) (size bytes : Nat) (ht : P.underlying t = some (.slice e)) (hi : P.info? e = some i) (hz : i.zero = some z)
    (hsize : i.size = size) (hby : i.bytes = bytes) (hzs : z.cells.size = size) (hsz : 0 < size)
    (v : Value) (n : Nat) (xs : List Value) (hs : a.eval s = v) (hown : w.ownsRow base e size v n xs)
    (B : Nat) (A : Option Addr) (m c : Nat) (news : List Value) (hx : a.eval x = .slice A m c) (hr : Reads w B size A m news) (h1 : ∀ u ∈ news, u.oneCell' = true)
    (h63 : n + m ≤ maxLen) (hbytes : (n + m) * bytes ≤ 140737488355328) (hbase : base ≤ w.heap.size)
    (h : ∀ v' w', w'.ownsRow base e size v' (n + m) (xs ++ news) → w.grownBy w' v.ownBlock → (v'.ownBlock = v.ownBlock ∨ v'.ownBlock = some w.heap.size) → K (a.put o.dst v') w') : o.wp P a w K Q := by
  obtain ⟨v', w', hrun, h2, h3, h4⟩ := run_append_any (P := P) w base t o.type e i z size bytes ht hi hz hsize hby hzs hsz v n xs hown B A m c news hr h1 h63 hbytes hbase
  unfold Oper.wp execOp
  simp only [ho, resolve, invoke, builtin, Sem.run_bind, Sem.run_pure, Result.andThen_ok, List.map_toArray, List.map_cons, List.map_nil, hs, hx, hrun]
  exact h v' w' h2 h3 h4
theorem wpList_append_any {ops : Array Oper} {rest : List Oper} {o : Oper} {a : Act} {Q : Exit → Act → World → Prop} (hgd : o.guard = none) (s x : Operand) (t : TypeId)
    (ho : o.op = .call { callee := .builtin .append, args := #[s, x], argTypes := #[t, t] })
    (base : Nat) (e : TypeId) (i : TypeInfo) (z : Value) (size bytes : Nat) (ht : P.underlying t = some (.slice e)) (hi : P.info? e = some i) (hz : i.zero = some z)
    (hsize : i.size = size) (hby : i.bytes = bytes) (hzs : z.cells.size = size) (hsz : 0 < size)
    (v : Value) (n : Nat) (xs : List Value) (hs : a.eval s = v) (hown : w.ownsRow base e size v n xs)
    (B : Nat) (A : Option Addr) (m c : Nat) (news : List Value) (hx : a.eval x = .slice A m c) (hr : Reads w B size A m news) (h1 : ∀ u ∈ news, u.oneCell' = true)
    (h63 : n + m ≤ maxLen) (hbytes : (n + m) * bytes ≤ 140737488355328) (hbase : base ≤ w.heap.size)
    (h : ∀ v' w', w'.ownsRow base e size v' (n + m) (xs ++ news) → w.grownBy w' v.ownBlock → (v'.ownBlock = v.ownBlock ∨ v'.ownBlock = some w.heap.size) → wpList P ops Q rest (a.put o.dst v') w') : wpList P ops Q (o :: rest) a w :=
  wpList_plain hgd fun _ hK => wp_append_any w s x t ho base e i z size bytes ht hi hz hsize hby hzs hsz v n xs hs hown B A m c news hx hr h1 h63 hbytes hbase fun v' w' h2 h3 h4 => hK _ _ (h v' w' h2 h3 h4)
theorem step_append_any {ops : Array Oper} {o : Oper} {a : Act} {K : Act → World → Prop} {Q : Exit → Act → World → Prop} {E : Prop} (hgd : o.guard = none) (s x : Operand) (t : TypeId)
    (ho : o.op = .call { callee := .builtin .append, args := #[s, x], argTypes := #[t, t] })
    (base : Nat) (e : TypeId) (i : TypeInfo) (z : Value) (size bytes : Nat) (ht : P.underlying t = some (.slice e)) (hi : P.info? e = some i) (hz : i.zero = some z)
    (hsize : i.size = size) (hby : i.bytes = bytes) (hzs : z.cells.size = size) (hsz : 0 < size)
    (v : Value) (n : Nat) (xs : List Value) (hs : a.eval s = v) (hown : w.ownsRow base e size v n xs)
    (B : Nat) (A : Option Addr) (m c : Nat) (news : List Value) (hx : a.eval x = .slice A m c) (hr : Reads w B size A m news) (h1 : ∀ u ∈ news, u.oneCell' = true)
    (h63 : n + m ≤ maxLen) (hbytes : (n + m) * bytes ≤ 140737488355328) (hbase : base ≤ w.heap.size)
    (h : ∀ v' w', w'.ownsRow base e size v' (n + m) (xs ++ news) → w.grownBy w' v.ownBlock → (v'.ownBlock = v.ownBlock ∨ v'.ownBlock = some w.heap.size) → K (a.put o.dst v') w') :
    if Region.wanted o (yielded ops a.tmps) = true then Oper.wp P o a w K Q else E := by
  have hw : Region.wanted o (yielded ops a.tmps) = true := by simp [Region.wanted, hgd]
  rw [if_pos hw]
  exact wp_append_any w s x t ho base e i z size bytes ht hi hz hsize hby hzs hsz v n xs hs hown B A m c news hx hr h1 h63 hbytes hbase h
end
theorem quiet_add_left {P : Program} {f : FuncId} {args : Array Value} {w : World} {a n : Nat} {v : Value}
    (h : Calls P f args (w.drewN (a + n)) fun e w' => e = .returned v ∧ w.drewN (a + n) = w') :
    Calls P f args (w.drewN (a + n)) fun e w'' => e = .returned v ∧ ∃ m, w'' = w.drewN (a + m) :=
  h.mono fun _ _ ⟨he, hm⟩ => ⟨he, n, hm.symm⟩
theorem quiet_left {P : Program} {f : FuncId} {args : Array Value} {w : World} {n : Nat} {v : Value}
    (h : Calls P f args (w.drewN n) fun e w' => e = .returned v ∧ w.drewN n = w') : Calls P f args (w.drewN n) fun e w'' => e = .returned v ∧ ∃ m, w'' = w.drewN m :=
  h.mono fun _ _ ⟨he, hm⟩ => ⟨he, n, hm.symm⟩
theorem below_drewN {B : Nat} {a w : World} (h : Below B a w) (n : Nat) : Below B a (w.drewN n) := ⟨h.os, h.tape, h.output, h.size, h.block⟩
theorem only_setCell {a w : World} {g : Nat} (h : a.grownBy w (some g)) {p : Addr} (hp : p.block = g ∨ a.heap.size ≤ p.block) (u : Value) : a.grownBy (w.setCell p u) (some g) :=
  ⟨h.os, h.tape, h.output, by simpa [World.setCell] using h.size, fun i hi hne => (Below.heap_setCell w p u i (by
    rintro rfl
    rcases hp with hp | hp
    · exact hne (by rw [hp])
    · omega)).trans (h.block i hi hne)⟩
theorem run_make_rowN {P : Program} (t e : TypeId) (i : TypeInfo) (z : Value) (ht : P.underlying t = some (.slice e)) (hi : P.info? e = some i) (hz : i.zero = some z)
    (kl kc : IntKind) (n c : Nat) (hnc : n ≤ c) (hbytes : i.bytes * c ≤ 281474976710656) (h63 : c ≤ 9223372036854775807) (w : World) :
    (Instr.makeSlice t (.int kl (n : Int)) (.int kc (c : Int))).run P w = .ok (.slice (some ⟨w.heap.size, 0, none⟩) n c) (w.alloc (.cells (madeCells z.cells (c * i.size)) e)) := by
  have hb : (i.bytes : Int) * (c : Int) ≤ 281474976710656 := by
    have h : ((i.bytes * c : Nat) : Int) ≤ 281474976710656 := by omega
    rwa [Int.natCast_mul] at h
  have hr := run_make (P := P) w t e i z ht hi hz kl kc n c (by omega) (by omega) hb (by omega)
  simp only [Int.toNat_natCast] at hr
  exact hr
theorem grown_of_below {a w : World} (h : Below a.heap.size a w) (row : Option Nat) : a.grownBy w row := ⟨h.os, h.tape, h.output, h.size, fun i hi _ => h.block i hi⟩
theorem only_trans {a b c : World} {row : Option Nat} (h : a.grownBy b row) (k : b.grownBy c row) : a.grownBy c row :=
  ⟨k.os.trans h.os, k.tape.trans h.tape, k.output.trans h.output, Nat.le_trans h.size k.size, fun i hi hne => (k.block i (Nat.lt_of_lt_of_le hi h.size) hne).trans (h.block i hi hne)⟩
theorem only_below {a b c : World} {row : Option Nat} (h : a.grownBy b row) (k : Below b.heap.size b c) : a.grownBy c row := only_trans h (grown_of_below k row)
theorem own_below {w w' : World} {base : Nat} {e : TypeId} {size : Nat} {v : Value} {n : Nat} {xs : List Value} (h : w.ownsRow base e size v n xs) (hb : Below w.heap.size w w') : w'.ownsRow base e size v n xs :=
  h.kept (grown_of_below hb none) (by cases hv : v.ownBlock <;> simp)
theorem only_below_B {a b c : World} {g : Nat} (h : Below a.heap.size a b) (k : b.grownBy c (some g)) (hg : a.heap.size ≤ g := by first | omega | simp) : Below a.heap.size a c :=
  ⟨k.os.trans h.os, k.tape.trans h.tape, k.output.trans h.output, Nat.le_trans h.size k.size, fun i hi => (k.block i (Nat.lt_of_lt_of_le hi h.size) (by intro e; injection e; omega)).trans (h.block i hi)⟩
structure Upper (B : Nat) (a w : World) : Prop where
  size : a.heap.size ≤ w.heap.size
  block : ∀ g, B ≤ g → g < a.heap.size → w.heap[g]? = a.heap[g]?
theorem Upper.refl (B : Nat) (a : World) : Upper B a a := ⟨Nat.le_refl _, fun _ _ _ => rfl⟩
theorem Upper.setCell {B : Nat} {a w : World} (h : Upper B a w) {p : Addr} (hp : p.block < B) (u : Value) : Upper B a (w.setCell p u) :=
  ⟨by simpa [World.setCell] using h.size, fun g hg hl => (Below.heap_setCell _ _ _ _ (by omega)).trans (h.block g hg hl)⟩
theorem Upper.alloc {B : Nat} {a w : World} (h : Upper B a w) (o : Obj) : Upper B a (w.alloc o) :=
  ⟨by have := h.size; simp; omega, fun g hg hl => (Below.heap_alloc _ _ _ (by have := h.size; omega)).trans (h.block g hg hl)⟩
theorem Upper.below {B : Nat} {a w w' : World} (h : Upper B a w) (hb : Below w.heap.size w w') : Upper B a w' :=
  ⟨Nat.le_trans h.size hb.size, fun g hg hl => (hb.block g (by have := h.size; omega)).trans (h.block g hg hl)⟩
theorem bel {B : Nat} {a w : World} (h : Below B a w := by repeat (first | (with_reducible exact Below.refl _ _) | (with_reducible assumption) | (with_reducible exact (‹_ ∧ _ ∧ Below _ _ _›).2.2) | (with_reducible refine below_drewN ?_ _) | (with_reducible refine Below.drew ?_) | ((with_reducible refine Below.alloc ?_ ?hsd _); (case hsd => (first | exact Nat.le_refl _ | (simp; done) | omega | (simp; omega) | exact (‹_ ∧ _ ∧ Below _ _ _›).2.2.size))) | ((with_reducible refine Below.setCell ?_ ?hsd _); (case hsd => (first | exact Nat.le_refl _ | (simp; done) | omega | (simp; omega) | exact (‹_ ∧ _ ∧ Below _ _ _›).2.2.size))) | ((with_reducible refine Below.trans ?_ (Below.mono (by with_reducible assumption) ?hsd)); (case hsd => (first | exact Nat.le_refl _ | (simp; done) | omega | (simp; omega) | exact (‹_ ∧ _ ∧ Below _ _ _›).2.2.size))) | exact Below.refl _ _ | assumption | exact (‹_ ∧ _ ∧ Below _ _ _›).2.2 | refine below_drewN ?_ _ | refine Below.drew ?_ | refine Below.alloc ?_ (by first | exact Nat.le_refl _ | (simp; done) | omega | (simp; omega) | exact (‹_ ∧ _ ∧ Below _ _ _›).2.2.size) _ | refine Below.setCell ?_ (by first | exact Nat.le_refl _ | (simp; done) | omega | (simp; omega) | exact (‹_ ∧ _ ∧ Below _ _ _›).2.2.size) _ | refine Below.trans ?_ (Below.mono (by assumption) (by first | exact Nat.le_refl _ | (simp; done) | omega | (simp; omega) | exact (‹_ ∧ _ ∧ Below _ _ _›).2.2.size)))) : Below B a w := h
theorem upr {B : Nat} {a w : World} (h : Upper B a w := by repeat (first | (with_reducible exact Upper.refl _ _) | (with_reducible refine Upper.drew ?_) | (with_reducible refine Upper.drewN ?_ _) | ((with_reducible refine Upper.setCell ?_ ?hsd _); (case hsd => (first | exact Nat.le_refl _ | (simp; done) | omega | (simp; omega) | exact (‹_ ∧ _ ∧ Below _ _ _›).2.2.size))) | (with_reducible refine Upper.alloc ?_ _) | (with_reducible refine Upper.below ?_ (by with_reducible assumption)) | exact Upper.refl _ _ | refine Upper.drew ?_ | refine Upper.drewN ?_ _ | refine Upper.setCell ?_ (by first | exact Nat.le_refl _ | (simp; done) | omega | (simp; omega) | exact (‹_ ∧ _ ∧ Below _ _ _›).2.2.size) _ | refine Upper.alloc ?_ _ | refine Upper.below ?_ (by assumption))) : Upper B a w := h
theorem own_up {w w' : World} {base base' : Nat} {e : TypeId} {size : Nat} {v : Value} {n : Nat} {xs : List Value} (h : w.ownsRow base e size v n xs) (hu : Upper base w w') (hb : base' ≤ base) : w'.ownsRow base' e size v n xs := by
  refine ⟨h.1, ?_⟩
  rcases h.2 with hn | ⟨g, cap, cur, rfl, hbg, hgg, rest⟩
  · exact .inl hn
  · exact .inr ⟨g, cap, cur, rfl, Nat.le_trans hb hbg, (hu.block g hbg (Array.getElem?_eq_some_iff.1 hgg).1).trans hgg, rest⟩
theorem grown_below {B : Nat} {w w' : World} {row : Option Nat} (hg : w.grownBy w' row) (hr : ∀ k, row = some k → B ≤ k) (hB : B ≤ w.heap.size) : Below B w w' := (Below.refl B w).grown hg hB hr
theorem bcellB {B : Nat} {W w1 : World} (hb : Below B W w1) : (∀ b o, b < B → w1.cell? ⟨b, o, none⟩ = W.cell? ⟨b, o, none⟩) ∧ (∀ b o, b < B → w1.frozen? ⟨b, o, none⟩ = W.frozen? ⟨b, o, none⟩) :=
  ⟨fun b o h => hb.cell (p := ⟨b, o, none⟩) h, fun b o h => hb.frozen (p := ⟨b, o, none⟩) h⟩
theorem own_slice {w : World} {base : Nat} {e : TypeId} {size : Nat} {v : Value} {n : Nat} {xs : List Value} (h : w.ownsRow base e size v n xs) : ∃ A c, v = .slice A n c := by
  rcases h.2 with ⟨rfl, h0⟩ | ⟨g, cap, cur, rfl, _⟩
  · exact ⟨none, 0, by rw [h0]⟩
  · exact ⟨_, _, rfl⟩
section
variable {P : Program} (w : World)
theorem step_append_sl {ops : Array Oper} {o : Oper} {a : Act} {K : Act → World → Prop} {Q : Exit → Act → World → Prop} {E : Prop} (hgd : o.guard = none) (s x : Operand) (t : TypeId)
    (ho : o.op = .call { callee := .builtin .append, args := #[s, x], argTypes := #[t, t] })
    (base : Nat) (e : TypeId) (i : TypeInfo) (z : Value) (size bytes : Nat) (ht : P.underlying t = some (.slice e)) (hi : P.info? e = some i) (hz : i.zero = some z)
    (hsize : i.size = size) (hby : i.bytes = bytes) (hzs : z.cells.size = size) (hsz : 0 < size)
    (v : Value) (n : Nat) (xs : List Value) (hs : a.eval s = v) (hown : w.ownsRow base e size v n xs)
    (B : Nat) (A : Option Addr) (m c : Nat) (news : List Value) (hx : a.eval x = .slice A m c) (hr : Reads w B size A m news) (h1 : ∀ u ∈ news, u.oneCell' = true)
    (h63 : n + m ≤ maxLen) (hbytes : (n + m) * bytes ≤ 140737488355328) (hbase : base ≤ w.heap.size)
    (h : ∀ A' c' w', w'.ownsRow base e size (.slice A' (n + m) c') (n + m) (xs ++ news) → Below base w w' → K (a.put o.dst (.slice A' (n + m) c')) w') :
    if Region.wanted o (yielded ops a.tmps) = true then Oper.wp P o a w K Q else E := by
  refine step_append_any w hgd s x t ho base e i z size bytes ht hi hz hsize hby hzs hsz v n xs hs hown B A m c news hx hr h1 h63 hbytes hbase ?_
  intro v' w' h2 h3 h4
  obtain ⟨A', c', rfl⟩ := own_slice h2
  exact h A' c' w' h2 (grown_below h3 (fun k hk => (hown.lt k hk).1) hbase)
end
theorem bcell {W w1 : World} (hb : Below W.heap.size W w1) : (∀ b o, b < W.heap.size → w1.cell? ⟨b, o, none⟩ = W.cell? ⟨b, o, none⟩) ∧ (∀ b o, b < W.heap.size → w1.frozen? ⟨b, o, none⟩ = W.frozen? ⟨b, o, none⟩) :=
  ⟨fun b o h => hb.cell (p := ⟨b, o, none⟩) h, fun b o h => hb.frozen (p := ⟨b, o, none⟩) h⟩
theorem keep_of {B : Nat} {a W : World} (h : Below B a W) : (∀ b o, b < B → W.cell? ⟨b, o, none⟩ = a.cell? ⟨b, o, none⟩) ∧ (∀ b o, b < B → W.frozen? ⟨b, o, none⟩ = a.frozen? ⟨b, o, none⟩) ∧ Below B a W :=
  ⟨fun b o hb => h.cell (p := ⟨b, o, none⟩) hb, fun b o hb => h.frozen (p := ⟨b, o, none⟩) hb, h⟩
end Go.Proofs.Ytdddglihomchfaa
namespace Go.Proofs.Ytdddglihomchfaa
open Go.ChangeShapes Go.WideShapes Go.ChangeAt Go.RowKit
structure Strs (w : World) (B : Nat) (A : Option Addr) (n : Nat) (ss : List ByteArray) : Prop where
  rd : Reads w B 1 A n (ss.map Value.string)
  nb : n ≤ 16777216
  sb : ∀ s ∈ ss, s.size ≤ 16777216
section
variable {w w' : World} {B B' n : Nat} {A : Option Addr} {ss : List ByteArray}
theorem Strs.len (h : Strs w B A n ss) : ss.length = n := by have := h.rd.1; simpa using this
theorem Strs.at_ {k : Nat} (h : Strs w B A n ss) (hk : k < n) : ∃ (hk' : k < ss.length) (ad : Addr), A = some ad ∧ ad.block < B ∧ w.cell? (ad.add k) = some (.string ss[k]) ∧ ss[k].size ≤ 16777216 := by
  obtain ⟨ad, u, rfl, hb, hx, hc⟩ := h.rd.at_ hk
  have hl := h.len
  have hk' : k < ss.length := by omega
  refine ⟨hk', ad, rfl, hb, ?_, h.sb _ (List.getElem_mem hk')⟩
  rw [hc]
  rw [List.getElem?_map, List.getElem?_eq_getElem hk'] at hx
  simpa using hx.symm
theorem Strs.more (h : Strs w B A n ss) (hB : B ≤ B') : Strs w B' A n ss := ⟨h.rd.more hB, h.nb, h.sb⟩
theorem Strs.below (h : Strs w B A n ss) (hb : Below B w w') : Strs w' B A n ss := ⟨h.rd.below hb, h.nb, h.sb⟩
theorem Strs.alloc (h : Strs w B A n ss) (hB : B ≤ w.heap.size) (o : Obj) : Strs (w.alloc o) B A n ss := ⟨h.rd.alloc hB o, h.nb, h.sb⟩
end
def stripOf (d f : Int) (s : ByteArray) : Bool := (downOf s.data.toList == d) && (forwardOf s.data.toList == f)
def cardOk (d f : Int) (ss : List ByteArray) : Bool := (isStepsB d && isStepsB f) && (inB ss.length 1 10 && ss.all (stripOf d f))
theorem cardOk_no {d f : Int} {ss : List ByteArray} {k : Nat} (hk : k < ss.length) (h : stripOf d f ss[k] = false) : cardOk d f ss = false := by
  have : ss.all (stripOf d f) = false := by
    rw [List.all_eq_false]; exact ⟨ss[k], List.getElem_mem hk, by simp [h]⟩
  unfold cardOk; rw [this]; simp
set_option maxHeartbeats 400000 in
theorem i_CardOk (d f : Int) (A : Option Addr) (n c : Nat) (ss : List ByteArray) (w : World) (hS : Strs w w.heap.size A n ss) :
    Calls Try.prog 66 #[.agg #[.int .i64 d, .int .i64 f, .slice A n c]] w fun e w' => e = .returned (.bool (cardOk d f ss)) ∧ Below w.heap.size w w' := by
  have hn := hS.nb
  go_enter Try.func66, Try.ntmps66
  go_wp2
  go_loopw [4, 8] (fun s i wr => ∃ k m : Nat, k ≤ n ∧ i = .int .i64 k ∧ wr = (w.alloc (.cells #[.int .i64 d, .int .i64 f, .slice A n c] 30)).drewN m ∧ (ss.take k).all (stripOf d f) = true) (fun _ i _ => n - (intOf i).toNat)
  case atStart => exact ⟨0, 0, Nat.zero_le _, rfl, rfl, by simp⟩
  case round =>
    obtain ⟨k, m, hk, rfl, rfl, hall⟩ := hrel
    by_cases hlt : k < n
    · obtain ⟨hk', ad, rfl, hab, hc, hsb⟩ := hS.at_ hlt
      have hab' : ad.block ≠ w.heap.size := by omega
      have hcc : ∀ (o : Obj), (w.alloc o).cell? (ad.add k) = some (.string ss[k]) := fun o => by
        rw [World.cell?_alloc_lt _ _ _ (by rw [block_of_add]; exact hab)]; exact hc
      have hq1 : ∀ W : World, Calls Try.prog 84 #[.string ss[k]] W fun e w' => e = .returned (.int .i64 (downOf ss[k].data.toList)) ∧ W = w' := fun W => i_DownOf _ _ (by unfold maxLen; omega)
      have hq2 : ∀ W : World, Calls Try.prog 85 #[.string ss[k]] W fun e w' => e = .returned (.int .i64 (forwardOf ss[k].data.toList)) ∧ W = w' := fun W => i_ForwardOf _ _ (by unfold maxLen; omega)
      have HQ1 := hide hq1
      have HQ2 := hide hq2
      clear hq1 hq2
      have hts : ss.take (k + 1) = ss.take k ++ [ss[k]] := by rw [List.take_succ_eq_append_getElem hk']
      have HT := Lib.hid hts
      have HA := Lib.hid hall
      clear hts hall
      cases h1 : (downOf ss[k].data.toList != d)
      · cases h2 : (forwardOf ss[k].data.toList != f)
        · go_wp2
          go_quiet (((first | (go_at_call 84; first | exact quiet_left (unhide HQ1 _) | exact quiet_add_left (unhide HQ1 _)) | (go_at_call 85; first | exact quiet_left (unhide HQ2 _) | exact quiet_add_left (unhide HQ2 _)))))
          go_wp2
          go_roundw
          case rel =>
            refine ⟨k + 1, _, by omega, by go_num, rfl, ?_⟩
            rw [HT.out, List.all_append, HA.out]
            simp at h1 h2
            simp [stripOf, h1, h2]
          case measure => simp [intOf]; omega
        · have hfin : cardOk d f ss = false := cardOk_no hk' (by simp at h2; simp [stripOf, h2])
          have HF := Lib.hid hfin
          clear hfin
          go_wp2
          go_quiet (((first | (go_at_call 84; first | exact quiet_left (unhide HQ1 _) | exact quiet_add_left (unhide HQ1 _)) | (go_at_call 85; first | exact quiet_left (unhide HQ2 _) | exact quiet_add_left (unhide HQ2 _)))))
          go_wp2
          go_ret
          exact ⟨ret_bool HF.out.symm, bel⟩
      · have hfin : cardOk d f ss = false := cardOk_no hk' (by simp at h1; simp [stripOf, h1])
        have HF := Lib.hid hfin
        clear hfin
        go_wp2
        go_quiet (((first | (go_at_call 84; first | exact quiet_left (unhide HQ1 _) | exact quiet_add_left (unhide HQ1 _)) | (go_at_call 85; first | exact quiet_left (unhide HQ2 _) | exact quiet_add_left (unhide HQ2 _)))))
        go_wp2
        go_ret
        exact ⟨ret_bool HF.out.symm, bel⟩
    · have hk2 : k = n := by omega
      have hl := hS.len
      have ht : ss.take k = ss := List.take_of_length_le (by omega)
      rw [ht] at hall
      have HA := Lib.hid hall
      have HL := Lib.hid hl
      clear hall ht hl
      subst hk2
      cases h1 : isStepsB d <;> cases h2 : isStepsB f <;> cases h3 : inB k 1 10 <;>
      · go_wp2_with (first | (go_at_call 86; refine (i_isSteps _ _).mono ?_; rintro e w' ⟨rfl, rfl⟩) | (go_at_call 40; refine (i_within _ _ _ _).mono ?_; rintro e w' ⟨rfl, rfl⟩))
        go_ret
        exact ⟨ret_bool (by unfold cardOk; rw [HA.out, HL.out, h1, h2, h3]; rfl), bel⟩
set_option maxHeartbeats 400000 in
theorem s_CardOk (d f : Int) (A : Option Addr) (n c : Nat) (ss : List ByteArray) (w : World) (hS : Strs w w.heap.size A n ss) :
    Calls Try.prog 70 #[.agg #[.int .i64 d, .int .i64 f, .slice A n c]] w fun e w' => e = .returned (.bool (cardOk d f ss)) ∧ Below w.heap.size w w' := by
  have hn := hS.nb
  have hl := hS.len
  cases h1 : (isStepsB d && isStepsB f)
  · have HF : Hid (cardOk d f ss = false) := by unfold Hid cardOk; rw [h1]; rfl
    go_enter Try.func70, Try.ntmps70
    go_wp2_with (first | (go_at_call 87; refine (s_l02Frame _ _ _).mono ?_; rintro e w' ⟨rfl, rfl⟩) | (go_at_call 35; refine (s_l01In _ _ _ _).mono ?_; rintro e w' ⟨rfl, rfl⟩))
    go_ret
    exact ⟨ret_bool HF.out.symm, bel⟩
  · cases h2 : inB n 1 10
    · have HF : Hid (cardOk d f ss = false) := by unfold Hid cardOk; rw [h1, hl, h2]; rfl
      have HL := Lib.hid hl
      clear hl
      go_enter Try.func70, Try.ntmps70
      go_wp2_with (first | (go_at_call 87; refine (s_l02Frame _ _ _).mono ?_; rintro e w' ⟨rfl, rfl⟩) | (go_at_call 35; refine (s_l01In _ _ _ _).mono ?_; rintro e w' ⟨rfl, rfl⟩))
      go_ret
      exact ⟨ret_bool HF.out.symm, bel⟩
    · have HL := Lib.hid hl
      clear hl
      have h1' := Lib.hid h1
      have h2' := Lib.hid h2
      go_enter Try.func70, Try.ntmps70
      go_wp2_with (first | (go_at_call 87; refine (s_l02Frame _ _ _).mono ?_; rintro e w' ⟨rfl, rfl⟩) | (go_at_call 35; refine (s_l01In _ _ _ _).mono ?_; rintro e w' ⟨rfl, rfl⟩))
      go_loopw [3] (fun i wr => ∃ k m : Nat, k ≤ n ∧ i = .int .i64 k ∧ wr = (w.alloc (.cells #[.int .i64 d, .int .i64 f, .slice A n c] 30)).drewN m ∧ (ss.take k).all (stripOf d f) = true) (fun i _ => n - (intOf i).toNat)
      case atStart => exact ⟨0, 0, Nat.zero_le _, rfl, rfl, by simp⟩
      case round =>
        obtain ⟨k, m, hk, rfl, rfl, hall⟩ := hrel
        by_cases hlt : k < n
        · obtain ⟨hk', ad, rfl, hab, hc, hsb⟩ := hS.at_ hlt
          have hab' : ad.block ≠ w.heap.size := by omega
          have hcc : ∀ (o : Obj), (w.alloc o).cell? (ad.add k) = some (.string ss[k]) := fun o => by
            rw [World.cell?_alloc_lt _ _ _ (by rw [block_of_add]; exact hab)]; exact hc
          have hq1 : ∀ W : World, Calls Try.prog 88 #[.string ss[k]] W fun e w' => e = .returned (.int .i64 (downOf ss[k].data.toList)) ∧ W = w' := fun W => s_DownOf _ _ (by unfold maxLen; omega)
          have hq2 : ∀ W : World, Calls Try.prog 89 #[.string ss[k]] W fun e w' => e = .returned (.int .i64 (forwardOf ss[k].data.toList)) ∧ W = w' := fun W => s_ForwardOf _ _ (by unfold maxLen; omega)
          have HQ1 := hide hq1
          have HQ2 := hide hq2
          clear hq1 hq2
          have hts : ss.take (k + 1) = ss.take k ++ [ss[k]] := by rw [List.take_succ_eq_append_getElem hk']
          have HT := Lib.hid hts
          have HA := Lib.hid hall
          clear hts hall
          cases h3 : (downOf ss[k].data.toList != d)
          · cases h4 : (forwardOf ss[k].data.toList != f)
            · go_wp2
              go_quiet (((first | (go_at_call 88; first | exact quiet_left (unhide HQ1 _) | exact quiet_add_left (unhide HQ1 _)) | (go_at_call 89; first | exact quiet_left (unhide HQ2 _) | exact quiet_add_left (unhide HQ2 _)))))
              go_wp2
              go_roundw
              case rel =>
                refine ⟨k + 1, _, by omega, by go_num, rfl, ?_⟩
                rw [HT.out, List.all_append, HA.out]
                simp at h3 h4
                simp [stripOf, h3, h4]
              case measure => simp [intOf]; omega
            · have hfin : cardOk d f ss = false := cardOk_no hk' (by simp at h4; simp [stripOf, h4])
              have HF := Lib.hid hfin
              clear hfin
              go_wp2
              go_quiet (((first | (go_at_call 88; first | exact quiet_left (unhide HQ1 _) | exact quiet_add_left (unhide HQ1 _)) | (go_at_call 89; first | exact quiet_left (unhide HQ2 _) | exact quiet_add_left (unhide HQ2 _)))))
              go_wp2
              go_ret
              exact ⟨ret_bool HF.out.symm, bel⟩
          · have hfin : cardOk d f ss = false := cardOk_no hk' (by simp at h3; simp [stripOf, h3])
            have HF := Lib.hid hfin
            clear hfin
            go_wp2
            go_quiet (((first | (go_at_call 88; first | exact quiet_left (unhide HQ1 _) | exact quiet_add_left (unhide HQ1 _)) | (go_at_call 89; first | exact quiet_left (unhide HQ2 _) | exact quiet_add_left (unhide HQ2 _)))))
            go_wp2
            go_ret
            exact ⟨ret_bool HF.out.symm, bel⟩
        · have hk2 : k = n := by omega
          have ht : ss.take k = ss := List.take_of_length_le (by have := HL.out; omega)
          rw [ht] at hall
          have HF : Hid (cardOk d f ss = true) := by unfold Hid cardOk; rw [h1'.out, HL.out, h2'.out, hall]; rfl
          clear hall ht
          subst hk2
          go_wp2
          go_ret
          exact ⟨ret_bool HF.out.symm, bel⟩
end Go.Proofs.Ytdddglihomchfaa
namespace Go.Proofs.Ytdddglihomchfaa
open Go.ChangeShapes Go.WideShapes Go.ChangeAt Go.RowKit
set_option linter.unusedVariables false
set_option maxRecDepth 10000
def chr (s : ByteArray) (k : Int) : UInt8 := s.data.toList.getD k.toNat 0
def cornerAny (s : ByteArray) (k : Int) : Bool := inB k 1 ((s.size : Int) - 1) && (chr s (k - 1) != chr s k)
def cornerB (c : UInt8) (s : ByteArray) (k : Int) : Bool := (isStrip s.data.toList && cornerAny s k) && (chr s (k - 1) == c)
def swapL (l : List UInt8) (k : Nat) : List UInt8 := ((l.take (k - 1) ++ (l.drop k).take 1) ++ (l.drop (k - 1)).take 1) ++ l.drop (k + 1)
def swapB (s : ByteArray) (k : Int) : ByteArray := ⟨(swapL s.data.toList k.toNat).toArray⟩
theorem inB_iff' {x a b : Int} : inB x a b = true ↔ a ≤ x ∧ x ≤ b := by simp [inB]
theorem chr_get (s : ByteArray) (K : Nat) (h : K < s.size) : chr s (K : Int) = s[K] := by
  unfold chr
  rw [Int.toNat_natCast, List.getD_eq_getElem?_getD, List.getElem?_eq_getElem (by simpa using h)]
  rfl
theorem neq_bytes (a b : UInt8) : (!((a.toNat : Int) == (b.toNat : Int))) = (a != b) := by
  by_cases h : a = b
  · subst h; simp
  · have h3 : ((a.toNat : Int) == (b.toNat : Int)) = false := by rw [beq_eq_false_iff_ne]; intro h2; exact h (UInt8.toNat_inj.1 (by omega))
    have h4 : (a == b) = false := by rw [beq_eq_false_iff_ne]; exact h
    rw [h3, bne, h4]
set_option maxHeartbeats 400000 in
theorem i_isCorner (s : ByteArray) (k : Int) (w : World) (hs : s.size ≤ 16777216) :
    Calls Try.prog 99 #[.string s, .int .i64 k] w fun e w' => e = .returned (.bool (cornerAny s k)) ∧ ∃ m, w' = w.drewN m := by
  have hw1 : IntKind.i64.wrap ((s.size : Int) - 1) = (s.size : Int) - 1 := by rw [IntWalk.i64_in _ (by omega)]
  have hq1 : ∀ (W : World) (v : Int), v = (s.size : Int) - 1 → Calls Try.prog 40 #[.int .i64 k, .int .i64 1, .int .i64 v] W fun e w' => e = .returned (.bool (inB k 1 ((s.size : Int) - 1))) ∧ W = w' := fun W v hv => by rw [hv]; exact i_within _ _ _ _
  have HW := hide hw1
  clear hw1
  cases hk : inB k 1 ((s.size : Int) - 1)
  · have HF : Hid (cornerAny s k = false) := by unfold Hid cornerAny; rw [hk]; rfl
    rw [hk] at hq1
    have HQ1 := hide hq1
    clear hq1
    go_enter Try.func99, Try.ntmps99
    go_wp2
    go_quiet (((first | (go_at_call 40; first | exact quiet_left (unhide HQ1 _ _ (by first | with_reducible rfl | exact unhide HW)) | exact quiet_add_left (unhide HQ1 _ _ (by first | with_reducible rfl | exact unhide HW))))))
    go_wp2
    go_ret
    exact ⟨ret_bool HF.out.symm, by first | exact ⟨0, rfl⟩ | exact ⟨_, rfl⟩ | exact ⟨_, World.drewN_drewN _ _ _⟩⟩
  · rw [hk] at hq1
    have HQ1 := hide hq1
    clear hq1
    have hb := inB_iff'.1 hk
    obtain ⟨L, rfl⟩ := Int.eq_ofNat_of_zero_le (show 0 ≤ k by omega)
    obtain ⟨K, hKL⟩ : ∃ K, L = K + 1 := ⟨L - 1, by omega⟩
    have hL : L < s.size := by omega
    have hK : K < s.size := by omega
    have e1 : ((L : Int) - 1) = (K : Int) := by omega
    have w1 : IntKind.i64.wrap ((L : Int) - 1) = (K : Int) := by rw [e1, IntWalk.i64_in _ (by omega)]
    have HF : Hid (cornerAny s L = (s[K] != s[L])) := by unfold Hid cornerAny; rw [hk, e1, chr_get s K hK, chr_get s L hL]; rfl
    have HK := hide hk
    have HKL := Lib.hid hKL
    clear hk hb hKL e1
    go_enter Try.func99, Try.ntmps99
    go_wp2
    go_quiet (((first | (go_at_call 40; first | exact quiet_left (unhide HQ1 _ _ (by first | with_reducible rfl | exact unhide HW)) | exact quiet_add_left (unhide HQ1 _ _ (by first | with_reducible rfl | exact unhide HW))))))
    go_wp2
    go_ret
    exact ⟨ret_bool (by rw [HF.out]; exact neq_bytes _ _), by first | exact ⟨0, rfl⟩ | exact ⟨_, rfl⟩ | exact ⟨_, World.drewN_drewN _ _ _⟩⟩
end Go.Proofs.Ytdddglihomchfaa
namespace Go.Proofs.Ytdddglihomchfaa
open Go.ChangeShapes Go.WideShapes Go.ChangeAt Go.RowKit
set_option linter.unusedVariables false
set_option maxRecDepth 10000
def digs : Nat → Nat → List UInt8 → List UInt8
  | 0, _, acc => acc
  | f + 1, k, acc => if k = 0 then acc else digs f (k / 10) ((48 + k % 10).toUInt8 :: acc)
theorem digs_zero (f : Nat) (acc : List UInt8) : digs f 0 acc = acc := by cases f <;> simp [digs]
def markL (k : Int) : List UInt8 := if k ≤ 0 then [109, 48] else 109 :: digs k.toNat k.toNat []
def markT (k : Int) : ByteArray := ⟨(markL k).toArray⟩
theorem size_one (x : UInt8) : (⟨#[x]⟩ : ByteArray).size = 1 := rfl
theorem conv_one (x : Int) (W : World) (h0 : 0 ≤ x) (h1 : x ≤ 255) :
    (convert 51 9 (.slice (some ⟨W.heap.size, 0, none⟩) 1 1)).run Try.prog (W.alloc (.cells #[.int .u8 x] 5)) = .ok (.string ⟨#[x.toNat.toUInt8]⟩) (W.alloc (.cells #[.int .u8 x] 5)) := by
  have h := run_convert_bytes_back (P := Try.prog) (W.alloc (.cells #[.int .u8 x] 5)) 51 9 5 ⟨W.heap.size, 0, none⟩ 1 [x.toNat.toUInt8] Try.underlying51 Try.underlying5 Try.underlying9
    (fun j hj => by
      have : j = 0 := by simp at hj; omega
      subst this
      show (W.alloc (.cells #[.int .u8 x] 5)).cell? ⟨W.heap.size, 0, none⟩ = _
      rw [World.cell?_alloc_mark]
      obtain ⟨X, rfl⟩ := Int.eq_ofNat_of_zero_le h0
      have hX : X < 256 := by omega
      simp [Nat.mod_eq_of_lt hX])
  exact h
set_option maxHeartbeats 400000 in
theorem l_markText (k : Int) (w : World) (hk0 : 0 ≤ k) (hk1 : k ≤ 1152921504606846976) :
    Calls Try.prog 55 #[.int .i64 k] w fun e w' => e = .returned (.string (markT k)) ∧ Below w.heap.size w w' := by
  by_cases hz : k ≤ 0
  · have HF : Hid (markT k = ⟨#[109, 48]⟩) := by unfold Hid markT markL; rw [if_pos hz]
    go_enter Try.func55, Try.ntmps55
    go_wp2
    go_ret
    exact ⟨ret_str HF.out.symm, Below.refl _ _⟩
  · obtain ⟨K, rfl⟩ := Int.eq_ofNat_of_zero_le hk0
    have HF : Hid (markT K = ⟨(109 :: digs K K []).toArray⟩) := by unfold Hid markT markL; rw [if_neg hz]; simp
    go_enter Try.func55, Try.ntmps55
    go_wp2
    go_loopw [0, 3] (fun n o wr => ∃ (q f : Nat) (acc : ByteArray), n = .int .i64 q ∧ acc.size + q ≤ K ∧ q ≤ f ∧ o = .string acc ∧ Hid (digs f q acc.data.toList = digs K K []) ∧ Below w.heap.size w wr) (fun n _ _ => (intOf n).toNat)
    case atStart => exact ⟨K, K, _, rfl, by show 0 + K ≤ K; omega, Nat.le_refl _, rfl, by unfold Hid; rfl, Below.refl _ _⟩
    case round =>
      obtain ⟨q, f, acc, rfl, hq, hf, rfl, HD, hb⟩ := hrel
      have hbs := hb.size
      by_cases h0 : 0 < q
      · have hcv := conv_one (48 + (q : Int) % 10) wr (by omega) (by omega)
        go_wp2
        go_roundw
        case rel =>
          obtain ⟨f', rfl⟩ : ∃ f', f = f' + 1 := ⟨f - 1, by omega⟩
          refine ⟨q / 10, f', _, by go_num, by rw [ByteArray.size_append, size_one]; omega, by omega, rfl, ?_, bel⟩
          have h := HD.out
          simp only [digs] at h
          rw [if_neg (by omega)] at h
          unfold Hid
          rw [← h]
          congr 1
          simp
        case measure => simp [intOf]; omega
      · have hq0 : q = 0 := by omega
        subst hq0
        have HE : Hid (markT K = ⟨(109 :: acc.data.toList).toArray⟩) := by
          unfold Hid; rw [HF.out, ← HD.out, digs_zero]
        go_wp2
        go_ret
        exact ⟨ret_str (by rw [HE.out]; apply ba_ext; simp [ByteArray.data_append]), hb⟩
theorem own_cell {w : World} {base : Nat} {e : TypeId} {g n c j : Nat} {xs : List Value} (h : w.ownsRow base e 1 (.slice (some ⟨g, 0, none⟩) n c) n xs) (hj : j < n) : ∃ u, w.cell? ⟨g, j, none⟩ = some u := by
  have hl := h.1
  rw [h.cellAt j (by omega), List.getElem?_eq_getElem (by omega)]
  exact ⟨_, rfl⟩
def marks (k : Int) (n : Nat) : List Value := (List.range n).map fun i => Value.string (markT (k + (i : Nat)))
theorem marks_len (k : Int) (n : Nat) : (marks k n).length = n := by simp [marks]
theorem marks_succ (k : Int) (n : Nat) : marks k (n + 1) = marks k n ++ [.string (markT (k + n))] := by
  simp [marks, List.range_succ]
theorem marks_step (k : Int) (i : Nat) (xs : List Value) (hi : i < xs.length) : (marks k i ++ xs.drop i).set i (.string (markT (k + i))) = marks k (i + 1) ++ xs.drop (i + 1) := by
  rw [marks_succ, List.set_append, if_neg (by simp [marks_len]), marks_len, Nat.sub_self, List.drop_eq_getElem_cons hi, List.set_cons_zero, List.append_assoc]
  rfl
def Marked (base : Nat) (v : Value) (n : Nat) (k : Int) (w : World) (e : Ending) (w' : World) : Prop :=
  e = .returned (.int .i64 (k + n)) ∧ w'.ownsRow base 9 1 v n (marks k n) ∧ w.grownBy w' v.ownBlock
set_option maxHeartbeats 400000 in
theorem l_markStringS (base : Nat) (A : Option Addr) (n c : Nat) (xs : List Value) (k : Int) (w : World) (hO : w.ownsRow base 9 1 (.slice A n c) n xs) (hk0 : 0 ≤ k) (hk1 : k ≤ 4503599627370496) (hn : n ≤ 16777216) :
    Calls Try.prog 56 #[.slice A n c, .int .i64 k] w (Marked base (.slice A n c) n k w) := by
  go_enter Try.func56, Try.ntmps56
  go_wp2
  go_loopw [1, 5] (fun q i wr => ∃ j : Nat, j ≤ n ∧ i = .int .i64 j ∧ q = .int .i64 (k + j) ∧ wr.ownsRow base 9 1 (.slice A n c) n (marks k j ++ xs.drop j) ∧ w.grownBy wr (Value.slice A n c).ownBlock) (fun _ i _ => n - (intOf i).toNat)
  case atStart => exact ⟨0, Nat.zero_le _, rfl, by go_num, by simpa [marks] using hO, World.grownBy.refl w _⟩
  case round =>
    obtain ⟨j, hj, rfl, rfl, hown, hg⟩ := hrel
    by_cases hlt : j < n
    · obtain ⟨g, cap, hv, hbg, hglt⟩ := hown.form (by omega)
      have hA : A = some ⟨g, 0, none⟩ := by injection hv
      subst hA
      clear hv
      have hlen : (marks k j ++ xs.drop j).length = n := by have := hown.1; omega
      have hxl : xs.length = n := by have := hO.1; omega
      have HX := Lib.hid hxl
      have HL := Lib.hid hlen
      clear hlen hxl
      go_wp2_with (go_at_call 55; refine (l_markText _ _ (by omega) (by omega)).mono ?_; rintro e w1 ⟨rfl, hb1⟩; have ho1 := own_below hown hb1; obtain ⟨u1, hc1⟩ := own_cell ho1 (j := j) (by omega); have hf1 := ho1.frozenAt j)
      go_roundw
      case rel =>
        have hst := ho1.stored j (.string (markT (k + j)))
        refine ⟨j + 1, by omega, by go_num, by go_num, ?_, ?_⟩
        · rw [← marks_step k j xs (by have := HX.out; omega)]; exact hst.1
        · exact only_trans (only_below hg hb1) hst.2
      case measure => simp [intOf]; omega
    · have hjn : j = n := by omega
      subst hjn
      have hxl : xs.length = j := by have := hO.1; omega
      have hd : xs.drop j = [] := List.drop_eq_nil_of_le (by omega)
      rw [hd, List.append_nil] at hown
      clear hd hxl
      go_wp2
      go_ret
      exact ⟨rfl, hown, hg⟩
set_option maxHeartbeats 400000 in
theorem l_markCard (base : Nat) (d f : Int) (A : Option Addr) (n c : Nat) (xs : List Value) (k : Int) (w : World) (hO : w.ownsRow base 9 1 (.slice A n c) n xs) (hk0 : 0 ≤ k) (hk1 : k ≤ 4503599627370496) (hn : n ≤ 16777216) :
    Calls Try.prog 43 #[.agg #[.int .i64 d, .int .i64 f, .slice A n c], .int .i64 k] w (Marked base (.slice A n c) n k w) := by
  go_enter Try.func43, Try.ntmps43
  go_wp2_with (go_at_call 56; refine (l_markStringS base _ _ _ _ _ _ (hO.alloc _) hk0 hk1 hn).mono ?_; rintro e w1 ⟨rfl, ho1, hg1⟩)
  go_ret
  exact ⟨rfl, ho1, only_trans (World.grownBy_alloc w _ _) hg1⟩
set_option maxHeartbeats 400000 in
theorem l_heldStringS (B : Nat) (A : Option Addr) (n c : Nat) (k : Int) (w : World) (hR : Reads w B 1 A n (marks k n)) (hB : B ≤ w.heap.size) (hk0 : 0 ≤ k) (hk1 : k ≤ 4503599627370496) (hn : n ≤ 16777216) :
    Calls Try.prog 75 #[.slice A n c, .int .i64 k] w fun e w' => e = .returned (.int .i64 (k + n)) ∧ Below w.heap.size w w' := by
  go_enter Try.func75, Try.ntmps75
  go_wp2
  go_loopw [1, 5] (fun q i wr => ∃ j : Nat, j ≤ n ∧ i = .int .i64 j ∧ q = .int .i64 (k + j) ∧ Below w.heap.size w wr) (fun _ i _ => n - (intOf i).toNat)
  case atStart => exact ⟨0, Nat.zero_le _, rfl, by go_num, Below.refl _ _⟩
  case round =>
    obtain ⟨j, hj, rfl, rfl, hb⟩ := hrel
    by_cases hlt : j < n
    · obtain ⟨ad, u, rfl, hab, hx, hc⟩ := hR.at_ hlt
      have hu : u = .string (markT (k + j)) := by
        simp [marks, hlt] at hx; exact hx.symm
      subst hu
      have HCB : Hid (∀ W : World, Below w.heap.size w W → W.cell? (ad.add j) = some (.string (markT (k + j)))) := by
        intro W hW; rw [hW.cell (by rw [block_of_add]; omega)]; exact hc
      have hc' := HCB.out wr hb
      have hbs := hb.size
      clear hx
      go_wp2
      go_region_held3 (fun w' => w'.cell? (ad.add j) = some (.string (markT (k + j))) ∧ Below w.heap.size w w') (exact ⟨HCB.out _ bel, bel⟩)
        (first | (go_at_call 55; refine (l_markText _ _ (by omega) (by omega)).mono ?_; rintro e w1 ⟨rfl, hb1⟩))
      all_goals
        go_wp2
        go_roundw
        case rel => exact ⟨j + 1, by omega, by go_num, by go_num, bel⟩
        case measure => simp [intOf]; omega
    · have hjn : j = n := by omega
      subst hjn
      go_wp2
      go_ret
      exact ⟨rfl, hb⟩
set_option maxHeartbeats 400000 in
theorem l_heldCard (d f : Int) (B : Nat) (A : Option Addr) (n c : Nat) (k : Int) (w : World) (hR : Reads w B 1 A n (marks k n)) (hB : B ≤ w.heap.size) (hk0 : 0 ≤ k) (hk1 : k ≤ 4503599627370496) (hn : n ≤ 16777216) :
    Calls Try.prog 44 #[.agg #[.int .i64 d, .int .i64 f, .slice A n c], .int .i64 k] w fun e w' => e = .returned (.int .i64 (k + n)) ∧ Below w.heap.size w w' := by
  go_enter Try.func44, Try.ntmps44
  go_wp2_with (go_at_call 75; refine (l_heldStringS B _ _ _ _ _ (hR.alloc hB _) (by simp; omega) hk0 hk1 hn).mono ?_; rintro e w1 ⟨rfl, hb1⟩)
  go_ret
  exact ⟨rfl, bel⟩
def eqSS (ss ts : List ByteArray) : Bool := decide (ss = ts)
theorem beq_toList_true {a b : ByteArray} (h : a = b) : (a.toList == b.toList) = true := by rw [h]; simp
theorem toList_inj {a b : ByteArray} (h : a.toList = b.toList) : a = b := by
  rw [ByteArray.toList_eq, ByteArray.toList_eq] at h
  exact ba_ext h
theorem beq_toList_false {a b : ByteArray} (h : a ≠ b) : (a.toList == b.toList) = false := by
  rw [beq_eq_false_iff_ne]; exact fun h' => h (toList_inj h')
set_option maxHeartbeats 400000 in
theorem l_eqStringS (B : Nat) (A1 A2 : Option Addr) (n1 n2 c1 c2 : Nat) (ss ts : List ByteArray) (w : World) (h1 : Strs w B A1 n1 ss) (h2 : Strs w B A2 n2 ts) (hB : B ≤ w.heap.size) :
    Calls Try.prog 74 #[.slice A1 n1 c1, .slice A2 n2 c2] w fun e w' => e = .returned (.bool (eqSS ss ts)) ∧ Below w.heap.size w w' := by
  have hl1 := h1.len
  have hl2 := h2.len
  have hn1 := h1.nb
  have hn2 := h2.nb
  by_cases hn : n1 = n2
  · subst hn
    have HL1 := Lib.hid hl1
    have HL2 := Lib.hid hl2
    clear hl1 hl2
    go_enter Try.func74, Try.ntmps74
    go_wp2
    go_loopw [5] (fun i wr => ∃ j m : Nat, j ≤ n1 ∧ i = .int .i64 j ∧ wr = w.drewN m ∧ Hid (ss.take j = ts.take j)) (fun i _ => n1 - (intOf i).toNat)
    case atStart => exact ⟨0, 0, Nat.zero_le _, rfl, rfl, by unfold Hid; simp⟩
    case round =>
      obtain ⟨j, m, hj, rfl, rfl, HT⟩ := hrel
      by_cases hlt : j < n1
      · obtain ⟨hk1, ad1, rfl, hab1, hc1, _⟩ := h1.at_ hlt
        obtain ⟨hk2, ad2, rfl, hab2, hc2, _⟩ := h2.at_ hlt
        by_cases he : ss[j] = ts[j]
        · have HE := Lib.hid he
          have hbq := beq_toList_true he
          clear he
          go_wp2
          go_quiet (fail)
          go_wp2
          go_roundw
          case rel =>
            refine ⟨j + 1, _, by omega, by go_num, rfl, ?_⟩
            unfold Hid
            rw [List.take_succ_eq_append_getElem hk1, List.take_succ_eq_append_getElem hk2, HT.out, HE.out]
          case measure => simp [intOf]; omega
        · have HF : Hid (eqSS ss ts = false) := by
            unfold Hid eqSS
            rw [decide_eq_false_iff_not]
            intro h; subst h; exact he rfl
          have hbq := beq_toList_false he
          clear he
          go_wp2
          go_quiet (fail)
          go_wp2
          go_ret
          exact ⟨ret_bool HF.out.symm, bel⟩
      · have HF : Hid (eqSS ss ts = true) := by
          unfold Hid eqSS
          rw [decide_eq_true_iff]
          have h := HT.out
          rw [List.take_of_length_le (by have := HL1.out; omega), List.take_of_length_le (by have := HL2.out; omega)] at h
          exact h
        go_wp2
        go_ret
        exact ⟨ret_bool HF.out.symm, bel⟩
  · have HF : Hid (eqSS ss ts = false) := by
      unfold Hid eqSS
      rw [decide_eq_false_iff_not]
      intro h; subst h; omega
    clear hl1 hl2
    go_enter Try.func74, Try.ntmps74
    go_wp2
    go_ret
    exact ⟨ret_bool HF.out.symm, bel⟩
set_option maxHeartbeats 400000 in
theorem l_eqCard (B : Nat) (d1 f1 d2 f2 : Int) (A1 A2 : Option Addr) (n1 n2 c1 c2 : Nat) (ss ts : List ByteArray) (w : World) (h1 : Strs w B A1 n1 ss) (h2 : Strs w B A2 n2 ts) (hB : B ≤ w.heap.size) :
    Calls Try.prog 41 #[.agg #[.int .i64 d1, .int .i64 f1, .slice A1 n1 c1], .agg #[.int .i64 d2, .int .i64 f2, .slice A2 n2 c2]] w fun e w' => e = .returned (.bool (((d1 == d2) && (f1 == f2)) && eqSS ss ts)) ∧ Below w.heap.size w w' := by
  cases he : eqSS ss ts <;> cases hd : (d1 == d2) <;> cases hf : (f1 == f2) <;>
  · have hd' : (d1 != d2) = !(d1 == d2) := rfl
    have hf' : (f1 != f2) = !(f1 == f2) := rfl
    rw [hd] at hd'
    rw [hf] at hf'
    simp only [Bool.not_true, Bool.not_false] at hd' hf'
    go_enter Try.func41, Try.ntmps41
    go_wp2_with (go_at_call 74; refine (l_eqStringS B _ _ _ _ _ _ _ _ _ ((h1.alloc hB _).alloc (by simp; omega) _) ((h2.alloc hB _).alloc (by simp; omega) _) (by simp; omega)).mono ?_; rintro e w1 ⟨rfl, hb1⟩)
    go_ret
    exact ⟨rfl, bel⟩
def tot : List ByteArray → Nat
  | [] => 0
  | s :: r => s.size + tot r
theorem tot_append (a b : List ByteArray) : tot (a ++ b) = tot a + tot b := by
  induction a with
  | nil => simp [tot]
  | cons x r ih => simp only [List.cons_append, tot, ih]; omega
theorem tot_mem {s : ByteArray} {l : List ByteArray} (h : s ∈ l) : s.size ≤ tot l := by
  induction l with
  | nil => cases h
  | cons x r ih =>
    rcases List.mem_cons.1 h with rfl | h
    · simp only [tot]; omega
    · have := ih h; simp only [tot]; omega
def szStrs (ss : List ByteArray) (left : Int) : Int := if left - ss.length - tot ss < 0 then -1 else left - ss.length - tot ss
set_option maxHeartbeats 400000 in
theorem l_szStringS (B : Nat) (A : Option Addr) (n c : Nat) (ss : List ByteArray) (left : Int) (w : World) (hR : Reads w B 1 A n (ss.map Value.string)) (hn : n ≤ 9223372036854775807) (hs : ∀ s ∈ ss, s.size ≤ 9223372036854775807) (h0 : -1 ≤ left) (h1 : left ≤ 1048576) :
    Calls Try.prog 68 #[.slice A n c, .int .i64 left] w fun e w' => e = .returned (.int .i64 (szStrs ss left)) ∧ w = w' := by
  have hl : ss.length = n := by have := hR.1; simpa using this
  by_cases hlt : left - n < 0
  · have HF : Hid (szStrs ss left = -1) := by unfold Hid szStrs; rw [if_pos (by omega)]
    have HL := Lib.hid hl
    clear hl
    go_enter Try.func68, Try.ntmps68
    go_wp2
    go_ret
    exact ⟨ret_int HF.out.symm, rfl⟩
  · have HL := Lib.hid hl
    clear hl
    go_enter Try.func68, Try.ntmps68
    go_wp2
    go_loop [1, 5] (fun q i => ∃ j : Nat, j ≤ n ∧ i = .int .i64 j ∧ q = .int .i64 (left - n - tot (ss.take j)) ∧ 0 ≤ left - n - tot (ss.take j)) (fun _ i => n - (intOf i).toNat)
    case atStart => exact ⟨0, Nat.zero_le _, rfl, by simp [tot], by simp [tot]; omega⟩
    case round =>
      obtain ⟨j, hj, rfl, rfl, hpos⟩ := hrel
      by_cases hjn : j < n
      · obtain ⟨ad, u, rfl, hab, hx, hc⟩ := hR.at_ hjn
        have hk1 : j < ss.length := by have := HL.out; omega
        have hu : u = .string ss[j] := by
          rw [List.getElem?_map, List.getElem?_eq_getElem hk1] at hx; simpa using hx.symm
        subst hu
        have hsz := hs _ (List.getElem_mem hk1)
        have htk : tot (ss.take (j + 1)) = tot (ss.take j) + ss[j].size := by
          rw [List.take_succ_eq_append_getElem hk1, tot_append]; simp [tot]
        have HT := Lib.hid htk
        clear htk hx
        by_cases hneg : left - n - tot (ss.take j) - ss[j].size < 0
        · have HF : Hid (szStrs ss left = -1) := by
            unfold Hid szStrs
            have h2 : tot ss = tot (ss.take (j + 1)) + tot (ss.drop (j + 1)) := by rw [← tot_append, List.take_append_drop]
            have h3 := HT.out
            have h4 := HL.out
            rw [if_pos (by omega)]
          go_wp2
          go_ret
          exact ⟨ret_int HF.out.symm, rfl⟩
        · go_wp2
          go_round
          case rel => exact ⟨j + 1, by omega, by go_num, by rw [HT.out]; congr 1; omega, by rw [HT.out]; omega⟩
          case measure => simp [intOf]; omega
      · have HF : Hid (szStrs ss left = left - n - tot (ss.take j)) := by
          unfold Hid szStrs
          have h4 := HL.out
          rw [List.take_of_length_le (by omega)] at hpos ⊢
          rw [h4, if_neg (by omega)]
        go_wp2
        go_ret
        exact ⟨ret_int HF.out.symm, rfl⟩
set_option maxHeartbeats 400000 in
theorem l_szCard (d f : Int) (B : Nat) (A : Option Addr) (n c : Nat) (ss : List ByteArray) (left : Int) (w : World) (hB : B ≤ w.heap.size) (hR : Reads w B 1 A n (ss.map Value.string)) (hn : n ≤ 9223372036854775807) (hs : ∀ s ∈ ss, s.size ≤ 9223372036854775807) (h0 : -1 ≤ left) (h1 : left ≤ 1048576) :
    Calls Try.prog 32 #[.agg #[.int .i64 d, .int .i64 f, .slice A n c], .int .i64 left] w fun e w' => e = .returned (.int .i64 (szStrs ss left)) ∧ Below w.heap.size w w' := by
  have hr : -1 ≤ szStrs ss left := by unfold szStrs; split <;> omega
  by_cases h : szStrs ss left < 0
  · have HF : Hid (szStrs ss left = -1) := by unfold Hid; omega
    go_enter Try.func32, Try.ntmps32
    go_wp2_with (go_at_call 68; refine (l_szStringS B _ _ _ _ _ _ (hR.alloc hB _) hn hs h0 h1).mono ?_; rintro e w' ⟨rfl, rfl⟩)
    go_ret
    exact ⟨ret_int HF.out.symm, bel⟩
  · go_enter Try.func32, Try.ntmps32
    go_wp2_with (go_at_call 68; refine (l_szStringS B _ _ _ _ _ _ (hR.alloc hB _) hn hs h0 h1).mono ?_; rintro e w' ⟨rfl, rfl⟩)
    go_ret
    exact ⟨rfl, bel⟩
theorem info_str : (Try.prog.info? 9).map (fun i => (i.zero, i.size, i.bytes)) = some (some (.string ByteArray.empty), 1, 16) := by kernel_rfl
def FreshStrs (base : Nat) (ss : List ByteArray) (w : World) (e : Ending) (w' : World) : Prop :=
  ∃ A c, e = .returned (.slice A ss.length c) ∧ w'.ownsRow base 9 1 (.slice A ss.length c) ss.length (ss.map Value.string) ∧ Below w.heap.size w w'
set_option maxHeartbeats 400000 in
theorem l_toStringS (B : Nat) (A : Option Addr) (n c : Nat) (ss : List ByteArray) (w : World) (hS : Strs w B A n ss) (hB : B ≤ w.heap.size) :
    Calls Try.prog 72 #[.slice A n c] w (FreshStrs w.heap.size ss w) := by
  have hn := hS.nb
  have hl := hS.len
  have HL := Lib.hid hl
  clear hl
  obtain ⟨i0, hi0, hz0, hz1, hz2⟩ := info_parts info_str
  have hmk := run_make_rowN (P := Try.prog) 22 9 i0 _ Try.underlying22 hi0 hz0 .i64 .i64 n n (Nat.le_refl _) (by rw [hz2]; omega) (by omega) w
  go_enter Try.func72, Try.ntmps72
  go_wp2
  go_loopw [4] (fun i wr => ∃ j : Nat, j ≤ n ∧ i = .int .i64 j ∧ wr.ownsRow w.heap.size 9 1 (.slice (some ⟨w.heap.size, 0, none⟩) n n) n ((ss.take j).map Value.string ++ List.replicate (n - j) (.string ByteArray.empty)) ∧ Below w.heap.size w wr) (fun i _ => n - (intOf i).toNat)
  case atStart =>
    refine ⟨0, Nat.zero_le _, rfl, ?_, bel⟩
    have h := World.ownsRow_lit (w := w) (base := w.heap.size) (e := 9) (size := 1) (madeCells #[Value.string ByteArray.empty] n) n (Nat.le_refl _) (by unfold maxLen; omega) (by simp [madeCells])
    rw [toList_madeCells_one] at h
    simpa using h
  case round =>
    obtain ⟨j, hj, rfl, hown, hb⟩ := hrel
    by_cases hlt : j < n
    · obtain ⟨hk1, ad, rfl, hab, hc, hsb⟩ := hS.at_ hlt
      have hc' : wr.cell? (ad.add j) = some (.string ss[j]) := by rw [hb.cell (by rw [block_of_add]; omega)]; exact hc
      obtain ⟨u1, hc1⟩ := own_cell hown (j := j) hlt
      have hf1 := hown.frozenAt j
      go_wp2
      go_roundw
      case rel =>
        have hst := hown.stored j (.string ss[j])
        refine ⟨j + 1, by omega, by go_num, ?_, only_below_B hb hst.2⟩
        have he : ((ss.take j).map Value.string ++ List.replicate (n - j) (Value.string ByteArray.empty)).set j (Value.string ss[j]) = (ss.take (j + 1)).map Value.string ++ List.replicate (n - (j + 1)) (.string ByteArray.empty) := by
          have hlj : ((ss.take j).map Value.string).length = j := by rw [List.length_map, List.length_take]; omega
          rw [List.set_append, if_neg (by rw [hlj]; omega), hlj, Nat.sub_self, show n - j = (n - (j + 1)) + 1 from by omega, List.replicate_succ, List.set_cons_zero, List.take_succ_eq_append_getElem hk1, List.map_append, List.append_assoc]
          rfl
        rw [← he]; exact hst.1
      case measure => simp [intOf]; omega
    · have hjn : j = n := by omega
      subst hjn
      have hE : (ss.take j).map Value.string ++ List.replicate (j - j) (.string ByteArray.empty) = ss.map Value.string := by
        rw [List.take_of_length_le (by have := HL.out; omega)]; simp
      rw [hE] at hown
      clear hE
      have HO := hide hown
      clear hown
      go_wp2
      go_ret
      have hl := HL.out
      subst hl
      exact ⟨_, _, rfl, unhide HO, hb⟩
def FreshCard (base : Nat) (d f : Int) (ss : List ByteArray) (w : World) (e : Ending) (w' : World) : Prop :=
  ∃ A c, e = .returned (.agg #[.int .i64 d, .int .i64 f, .slice A ss.length c]) ∧ w'.ownsRow base 9 1 (.slice A ss.length c) ss.length (ss.map Value.string) ∧ Below w.heap.size w w'
set_option maxHeartbeats 400000 in
theorem l_toCard (d f : Int) (B : Nat) (A : Option Addr) (n c : Nat) (ss : List ByteArray) (w : World) (hS : Strs w B A n ss) (hB : B ≤ w.heap.size) :
    Calls Try.prog 37 #[.agg #[.int .i64 d, .int .i64 f, .slice A n c]] w (FreshCard w.heap.size d f ss w) := by
  go_enter Try.func37, Try.ntmps37
  go_wp2_with (go_at_call 72; refine (l_toStringS B _ _ _ _ _ (((hS.alloc hB _).alloc (by simp; omega) _).alloc (by simp; omega) _) (by simp; omega)).mono ?_; rintro e w1 ⟨A1, c1, rfl, ho1, hb1⟩; obtain ⟨hcb, hfb⟩ := bcell hb1)
  refine bodyPost_ret (v := .agg #[.int .i64 d, .int .i64 f, .slice A1 ss.length c1]) (by simp [results, Try.results37, go_sem, hcb]) rfl ?_
  exact ⟨A1, c1, rfl, own_up ho1 upr (by first | exact Nat.le_refl _ | (simp; done) | omega | (simp; omega) | exact (‹_ ∧ _ ∧ Below _ _ _›).2.2.size), bel⟩
end Go.Proofs.Ytdddglihomchfaa
namespace Go.Proofs.Ytdddglihomchfaa
open Go.ChangeShapes Go.WideShapes Go.ChangeAt Go.RowKit
set_option linter.unusedVariables false
theorem made_at {e : TypeId} {size : Nat} (W : World) (base k : Nat) (hk : W.heap.size = k) (hb : base ≤ k) : (W.alloc (.cells #[] e)).ownsRow base e size (.slice (some ⟨k, 0, none⟩) 0 0) 0 [] := by
  subst hk
  exact World.ownsRow_made W #[] 0 hb (by unfold maxLen; omega) (by simp)
theorem fresh_of {base n : Nat} {v : Value} {ss : List ByteArray} {w w' : World} (hl : ss.length = n) (ho : w'.ownsRow base 9 1 v n (ss.map Value.string)) (hb : Below w.heap.size w w') : FreshStrs base ss w (.returned v) w' := by
  subst hl
  rcases ho.2 with ⟨rfl, h0⟩ | ⟨g, cap, cur, rfl, _⟩
  · rw [h0] at ho
    refine ⟨none, 0, by rw [h0], ?_, hb⟩
    rw [h0]; exact ho
  · exact ⟨_, _, rfl, ho, hb⟩
set_option maxHeartbeats 400000 in
theorem clone_str (B : Nat) (A : Option Addr) (n c : Nat) (ss : List ByteArray) (w : World) (hS : Strs w B A n ss) (hB : B ≤ w.heap.size) :
    Calls Try.prog 73 #[.slice A n c] w (FreshStrs w.heap.size ss w) := by
  have hn := hS.nb
  have hl := hS.len
  have hR := hS.rd
  rcases A with _ | ad
  · have hn0 : n = 0 := by
      rcases Nat.eq_zero_or_pos n with h0 | h0
      · exact h0
      · obtain ⟨_, ad, h, _⟩ := hS.at_ h0; cases h
    subst hn0
    have hs0 : ss = [] := List.eq_nil_of_length_eq_zero hl
    subst hs0
    have hnil := fun W => Lib.run_eql_slice_nil (P := Try.prog) W 22
    clear hl
    go_enter Try.func73, Try.ntmps73
    go_wp2
    go_ret
    exact ⟨none, 0, rfl, World.ownsRow_nil w _ _ _, Below.refl _ _⟩
  · have hnil := fun W => Lib.run_eql_slice_nil (P := Try.prog) W 22
    obtain ⟨i0, hi0, hz0, hz1, hz2⟩ := info_parts info_str
    have hown : (w.alloc (.cells #[] 9)).ownsRow w.heap.size 9 1 (.slice (some ⟨w.heap.size, 0, none⟩) 0 0) 0 [] := World.ownsRow_made w #[] 0 (Nat.le_refl _) (by unfold maxLen; omega) rfl
    have hR1 := hR.alloc hB (.cells #[] 9)
    have hone : ∀ u ∈ ss.map Value.string, u.oneCell' = true := by
      intro u hu; obtain ⟨s, _, rfl⟩ := List.mem_map.1 hu; rfl
    have HL := Lib.hid hl
    clear hl
    go_enter Try.func73, Try.ntmps73
    go_wp2_with (at_builtin; refine wpList_append_any _ rfl (.tmp 5) (.tmp 6) _ rfl w.heap.size 9 i0 _ 1 16 Try.underlying22 hi0 hz0 hz1 hz2 rfl (by omega) (.slice (some ⟨w.heap.size, 0, none⟩) 0 0) 0 [] rfl hown B (some ad) n c (ss.map Value.string) rfl hR1 hone ?_ ?_ ?_ ?_; (unfold maxLen; omega); omega; (simp); intro v1 w1 hown1 hg1 hat1)
    have hfr := fresh_of (ss := ss) (n := n) HL.out (by simpa using hown1) (((Below.refl _ _).alloc (Nat.le_refl _) _).grown hg1 (by simp) (by intro k hk; simp [Value.ownBlock] at hk; omega))
    have HFR := hide hfr
    clear hfr hown1 hg1 hat1
    go_ret
    exact (unhide HFR)
set_option maxHeartbeats 400000 in
theorem i_copied (d f : Int) (B : Nat) (A : Option Addr) (n c : Nat) (ss : List ByteArray) (w : World) (hS : Strs w B A n ss) (hB : B ≤ w.heap.size) :
    Calls Try.prog 39 #[.agg #[.int .i64 d, .int .i64 f, .slice A n c]] w (FreshCard w.heap.size d f ss w) := by
  have hS2 := (hS.alloc hB (.cells #[.int .i64 d, .int .i64 f, .slice A n c] 30)).alloc (by simp; omega) (.cells #[.int .i64 0, .int .i64 0, .slice none 0 0] 30)
  have hB2 : B ≤ ((w.alloc (.cells #[.int .i64 d, .int .i64 f, .slice A n c] 30)).alloc (.cells #[.int .i64 0, .int .i64 0, .slice none 0 0] 30)).heap.size := by simp; omega
  go_enter Try.func39, Try.ntmps39
  go_wp2
  go_region_held3 (fun W => (∀ b o, b < w.heap.size + 1 → W.cell? ⟨b, o, none⟩ = ((w.alloc (.cells #[.int .i64 d, .int .i64 f, .slice A n c] 30)).alloc (.cells #[.int .i64 0, .int .i64 0, .slice none 0 0] 30)).cell? ⟨b, o, none⟩) ∧ (∀ b o, b < w.heap.size + 1 → W.frozen? ⟨b, o, none⟩ = ((w.alloc (.cells #[.int .i64 d, .int .i64 f, .slice A n c] 30)).alloc (.cells #[.int .i64 0, .int .i64 0, .slice none 0 0] 30)).frozen? ⟨b, o, none⟩) ∧ Below (w.heap.size + 1) ((w.alloc (.cells #[.int .i64 d, .int .i64 f, .slice A n c] 30)).alloc (.cells #[.int .i64 0, .int .i64 0, .slice none 0 0] 30)) W) (exact keep_of bel) (first | (go_at_call 73; have hq := (‹_ ∧ _ ∧ Below _ _ _›).2.2; refine (clone_str B _ _ _ ss _ ?_ ?_).mono ?_; exact hS2.below (hq.mono (by omega)); exact Nat.le_trans hB2 hq.size; rintro e w1 ⟨A1, c1, rfl, ho1, hb1⟩; obtain ⟨hcb, hfb⟩ := bcell hb1))
  go_wp2
  refine bodyPost_ret (v := .agg #[.int .i64 d, .int .i64 f, .slice A1 ss.length c1]) (by simp [results, Try.results39, go_sem, hcb]) rfl ?_
  exact ⟨A1, c1, rfl, own_up ho1 upr (by first | exact Nat.le_refl _ | (simp; done) | omega | (simp; omega) | exact (‹_ ∧ _ ∧ Below _ _ _›).2.2.size), bel⟩
set_option maxHeartbeats 400000 in
theorem s_l05Copy (d f : Int) (B : Nat) (A : Option Addr) (n c : Nat) (ss : List ByteArray) (w : World) (hS : Strs w B A n ss) (hB : B ≤ w.heap.size) :
    Calls Try.prog 69 #[.agg #[.int .i64 d, .int .i64 f, .slice A n c]] w (FreshCard w.heap.size d f ss w) := by
  have hn := hS.nb
  have hl := hS.len
  have hS2 := (hS.alloc hB (.cells #[.int .i64 d, .int .i64 f, .slice A n c] 30)).alloc (by simp; omega) (.cells #[.int .i64 0, .int .i64 0, .slice none 0 0] 30)
  have hB2 : B ≤ ((w.alloc (.cells #[.int .i64 d, .int .i64 f, .slice A n c] 30)).alloc (.cells #[.int .i64 0, .int .i64 0, .slice none 0 0] 30)).heap.size := by simp; omega
  obtain ⟨i0, hi0, hz0, hz1, hz2⟩ := info_parts info_str
  have hown : (((w.alloc (.cells #[.int .i64 d, .int .i64 f, .slice A n c] 30)).alloc (.cells #[.int .i64 0, .int .i64 0, .slice none 0 0] 30)).alloc (.cells #[] 9)).ownsRow (w.heap.size + 2) 9 1 (.slice (some ⟨w.heap.size + 1 + 1, 0, none⟩) 0 0) 0 [] := made_at _ _ _ (by simp) (by omega)
  have hone : ∀ u ∈ ss.map Value.string, u.oneCell' = true := by
    intro u hu; obtain ⟨s, _, rfl⟩ := List.mem_map.1 hu; rfl
  have HL := Lib.hid hl
  clear hl
  go_enter Try.func69, Try.ntmps69
  go_wp2
  go_region_held3 (fun W => (∀ b o, b < w.heap.size + 1 → W.cell? ⟨b, o, none⟩ = ((w.alloc (.cells #[.int .i64 d, .int .i64 f, .slice A n c] 30)).alloc (.cells #[.int .i64 0, .int .i64 0, .slice none 0 0] 30)).cell? ⟨b, o, none⟩) ∧ (∀ b o, b < w.heap.size + 1 → W.frozen? ⟨b, o, none⟩ = ((w.alloc (.cells #[.int .i64 d, .int .i64 f, .slice A n c] 30)).alloc (.cells #[.int .i64 0, .int .i64 0, .slice none 0 0] 30)).frozen? ⟨b, o, none⟩) ∧ Below (w.heap.size + 1) ((w.alloc (.cells #[.int .i64 d, .int .i64 f, .slice A n c] 30)).alloc (.cells #[.int .i64 0, .int .i64 0, .slice none 0 0] 30)) W) (exact keep_of bel) (first | (refine step_append_sl _ rfl (.tmp 7) (.tmp 9) _ rfl (w.heap.size + 2) 9 i0 _ 1 16 Try.underlying22 hi0 hz0 hz1 hz2 rfl (by omega) (.slice (some ⟨w.heap.size + 1 + 1, 0, none⟩) 0 0) 0 [] rfl hown.drew B A n c (ss.map Value.string) rfl ((hS2.rd.alloc hB2 _).drew) hone ?_ ?_ ?_ ?_; (unfold maxLen; omega); omega; (simp); intro A1 c1 w1 ho1 hb1; obtain ⟨hcb, hfb⟩ := bcellB hb1))
  go_wp2
  have hl := HL.out
  subst hl
  simp only [Nat.zero_add, List.nil_append] at ho1 ⊢
  refine bodyPost_ret (v := .agg #[.int .i64 d, .int .i64 f, .slice A1 ss.length c1]) (by simp [results, Try.results69, go_sem, hcb]) rfl ?_
  exact ⟨A1, c1, rfl, own_up ho1 upr (by first | exact Nat.le_refl _ | (simp; done) | omega | (simp; omega) | exact (‹_ ∧ _ ∧ Below _ _ _›).2.2.size), bel⟩
end Go.Proofs.Ytdddglihomchfaa
namespace Go.Proofs.Ytdddglihomchfaa
open Go.ChangeShapes Go.WideShapes Go.ChangeAt Go.RowKit
set_option linter.unusedVariables false
def FreshCardB (base : Nat) (d f : Int) (ss : List ByteArray) (b : Bool) (w : World) (e : Ending) (w' : World) : Prop :=
  ∃ A c, e = .returned (.tuple #[.agg #[.int .i64 d, .int .i64 f, .slice A ss.length c], .bool b]) ∧ w'.ownsRow base 9 1 (.slice A ss.length c) ss.length (ss.map Value.string) ∧ Below w.heap.size w w'
def putAt (d f : Int) (ss : List ByteArray) (k : Int) (s : ByteArray) : List ByteArray × Bool :=
  if (cardOk d f ss && inB k 0 ((ss.length : Int) - 1)) && cardOk d f (ss.set k.toNat s) then (ss.set k.toNat s, true) else (ss, false)
theorem strs_of_own {w : World} {base n c : Nat} {A : Option Addr} {ss : List ByteArray} (h : w.ownsRow base 9 1 (.slice A n c) n (ss.map Value.string)) (hn : n ≤ 16777216) (hs : ∀ s ∈ ss, s.size ≤ 16777216) : Strs w w.heap.size A n ss :=
  ⟨Reads.of_own h, hn, hs⟩
theorem inB_iff {x a b : Int} : inB x a b = true ↔ a ≤ x ∧ x ≤ b := by simp [inB]
end Go.Proofs.Ytdddglihomchfaa
namespace Go.Proofs.Ytdddglihomchfaa
open Go.ChangeShapes Go.WideShapes Go.ChangeAt Go.RowKit
set_option linter.unusedVariables false
theorem own_cap {w : World} {base n c : Nat} {e : TypeId} {A : Option Addr} {xs : List Value} (h : w.ownsRow base e 1 (.slice A n c) n xs) : n ≤ c ∧ c ≤ 9223372036854775807 := by
  rcases h.2 with ⟨hv, h0⟩ | ⟨g', cap, cur, hv, _, _, h1, h2, _⟩
  · injection hv with _ _ e3; omega
  · injection hv with _ _ e3; subst e3; unfold maxLen at h2; exact ⟨h1, by omega⟩
theorem reads_one {W : World} (u : Value) (t : TypeId) : Reads (W.alloc (.cells #[u] t)) (W.heap.size + 1) 1 (some ⟨W.heap.size, 0, none⟩) 1 [u] := by
  refine ⟨rfl, fun _ => ⟨_, rfl, by simp, fun j v hj => ?_⟩⟩
  have hj0 : j = 0 := by
    rcases Nat.eq_zero_or_pos j with h | h
    · exact h
    · rw [List.getElem?_eq_none (by simp; omega)] at hj; cases hj
  subst hj0
  rw [show ((⟨W.heap.size, 0, none⟩ : Addr).add 0) = ⟨W.heap.size, 0, none⟩ from rfl, World.cell?_alloc_mark]
  simpa using hj
theorem blk_cells {w : World} {g : Nat} {t : TypeId} {cs : Array Value} (h : w.heap[g]? = some (.cells cs t (0, 0))) (i : Nat) : w.cell? ⟨g, i, none⟩ = cs[i]? ∧ w.frozen? ⟨g, i, none⟩ = false :=
  ⟨cell_of_row w g i cs t (0, 0) h, frozen_of_row w g i cs t h⟩
theorem blk_lt {w : World} {g : Nat} {o : Obj} (h : w.heap[g]? = some o) : g < w.heap.size := (Array.getElem?_eq_some_iff.1 h).1
theorem blk_set {w : World} {g : Nat} {t : TypeId} {cs : Array Value} (h : w.heap[g]? = some (.cells cs t (0, 0))) (i : Nat) (u : Value) : (w.setCell ⟨g, i, none⟩ u).heap[g]? = some (.cells (cs.setIfInBounds i u) t (0, 0)) :=
  heap_setCell_same w g i cs t u h
theorem blk_new (W : World) (o : Obj) : (W.alloc o).heap[W.heap.size]? = some o := heap_alloc_new W o
theorem blk_alloc {g : Nat} {w : World} {o : Obj} (h : w.heap[g]? = some o) (o' : Obj) : (w.alloc o').heap[g]? = some o := (Below.heap_alloc _ _ _ (blk_lt h)).trans h
theorem blk_drew {g : Nat} {w : World} {o : Obj} (h : w.heap[g]? = some o) : w.drew.heap[g]? = some o := h
theorem blk_below {B g : Nat} {w w' : World} {o : Obj} (h : w.heap[g]? = some o) (hb : Below B w w') (hg : g < B) : w'.heap[g]? = some o := (hb.block g hg).trans h
section
variable {P : Program} (w : World)
theorem wpList_append_N {ops : Array Oper} {rest : List Oper} {o : Oper} {a : Act} {Q : Exit → Act → World → Prop} (hgd : o.guard = none) (s x : Operand) (t : TypeId)
    (ho : o.op = .call { callee := .builtin .append, args := #[s, x], argTypes := #[t, t] })
    (base : Nat) (e : TypeId) (i : TypeInfo) (z : Value) (size bytes : Nat) (ht : P.underlying t = some (.slice e)) (hi : P.info? e = some i) (hz : i.zero = some z)
    (hsize : i.size = size) (hby : i.bytes = bytes) (hzs : z.cells.size = size) (hsz : 0 < size)
    (v : Value) (n : Nat) (xs : List Value) (hs : a.eval s = v) (hown : w.ownsRow base e size v n xs)
    (B : Nat) (A : Option Addr) (m c : Nat) (news : List Value) (hx : a.eval x = .slice A m c) (hr : Reads w B size A m news) (h1 : ∀ u ∈ news, u.oneCell' = true)
    (h63 : n + m ≤ maxLen) (hbytes : (n + m) * bytes ≤ 140737488355328) (hbase : base ≤ w.heap.size)
    (N : Nat) (ys : List Value) (hN : n + m = N) (hys : xs ++ news = ys) (h : ∀ A' c' w', w'.ownsRow base e size (.slice A' N c') N ys → Below base w w' → wpList P ops Q rest (a.put o.dst (.slice A' N c')) w') : wpList P ops Q (o :: rest) a w := by
  refine wpList_append_any w hgd s x t ho base e i z size bytes ht hi hz hsize hby hzs hsz v n xs hs hown B A m c news hx hr h1 h63 hbytes hbase ?_
  subst hN; subst hys
  intro v' w' h2 h3 h4
  obtain ⟨A', c', rfl⟩ := own_slice h2
  exact h A' c' w' h2 (grown_below h3 (fun k hk => (hown.lt k hk).1) hbase)
end
end Go.Proofs.Ytdddglihomchfaa
namespace Go.Proofs.Ytdddglihomchfaa
open Go.ChangeShapes Go.WideShapes Go.ChangeAt Go.RowKit
set_option linter.unusedVariables false
set_option maxRecDepth 10000
def mirrorRes (d f : Int) (ss : List ByteArray) : Int × Int × List ByteArray := if cardOk d f ss = true then (d, f, ss.reverse) else (0, 0, [])
end Go.Proofs.Ytdddglihomchfaa
namespace Go.Proofs.Ytdddglihomchfaa
open Go.ChangeShapes Go.WideShapes Go.ChangeAt Go.RowKit
set_option linter.unusedVariables false
set_option maxRecDepth 10000
def sameFrame (a b : List UInt8) : Bool := (isStrip a && isStrip b) && ((cnt 100 a == cnt 100 b) && (cnt 102 a == cnt 102 b))
def hgt (u : Int) : List UInt8 → Int
  | [] => u
  | c :: l => if c = 102 then hgt u l else hgt (u - 1) l
def hts (u : Int) : List UInt8 → List Int
  | [] => []
  | c :: l => if c = 102 then u :: hts u l else hts (u - 1) l
def htsOf (l : List UInt8) : List Int := hts (cnt 100 l) l
theorem info_int : (Try.prog.info? 3).map (fun i => (i.zero, i.size, i.bytes)) = some (some (.int .i64 0), 1, 8) := by kernel_rfl
def ints (l : List Int) : List Value := l.map (Value.int .i64)
def FreshInts (base : Nat) (l : List Int) (w : World) (e : Ending) (w' : World) : Prop :=
  ∃ A c, e = .returned (.slice A l.length c) ∧ w'.ownsRow base 3 1 (.slice A l.length c) l.length (ints l) ∧ Below w.heap.size w w'
end Go.Proofs.Ytdddglihomchfaa
namespace Go.Proofs.Ytdddglihomchfaa
open Go.ChangeShapes Go.WideShapes Go.ChangeAt Go.RowKit
set_option linter.unusedVariables false
set_option linter.unusedSimpArgs false
set_option maxRecDepth 10000
def cornN (s : ByteArray) : Nat → Nat
  | 0 => 0
  | j + 1 => cornN s j + if cornerAny s (j : Int) = true then 1 else 0
theorem cornN_yes {s : ByteArray} {j : Nat} (h : cornerAny s (j : Int) = true) : cornN s (j + 1) = cornN s j + 1 := by
  show cornN s j + _ = _; rw [if_pos h]
theorem cornN_no {s : ByteArray} {j : Nat} (h : cornerAny s (j : Int) = false) : cornN s (j + 1) = cornN s j := by
  show cornN s j + _ = _; rw [h]; rfl
theorem cornN_le (s : ByteArray) : ∀ j, cornN s j ≤ j
  | 0 => Nat.le_refl _
  | j + 1 => by have := cornN_le s j; show cornN s j + _ ≤ _; split <;> omega
theorem cornN_one (s : ByteArray) : cornN s 1 = 0 := by
  rw [cornN_no (by unfold cornerAny inB; simp)]; rfl
def cornL (s : ByteArray) : Nat := if isStrip s.data.toList = true then cornN s s.size else 0
def foldsOf (s : ByteArray) : Int := if isStrip s.data.toList = true then ((cornN s s.size : Nat) : Int) + (if chr s 0 = 102 then 1 else 0) + (if chr s ((s.size : Int) - 1) = 100 then 1 else 0) else -1
theorem foldsOf_bd (s : ByteArray) (h : s.size ≤ 16777216) : -1 ≤ foldsOf s ∧ foldsOf s ≤ 16777218 := by
  have := cornN_le s s.size
  unfold foldsOf
  split
  · split <;> split <;> omega
  · omega
theorem strip_pos {s : ByteArray} (h : isStrip s.data.toList = true) : 2 ≤ s.size := by
  unfold isStrip at h
  simp only [Bool.and_eq_true, beq_iff_eq, inB, decide_eq_true_eq] at h
  have h1 := cnt_two s.data.toList
  have h2 : s.data.toList.length = s.size := by simp
  omega
set_option maxHeartbeats 1600000 in
theorem i_CornersOf (s : ByteArray) (w : World) (hs : s.size ≤ 16777216) :
    Calls Try.prog 95 #[.string s] w fun e w' => ∃ A c, e = .returned (.slice A (cornL s) c) ∧ Below w.heap.size w w' := by
  have hq1 : ∀ W : World, Calls Try.prog 94 #[.string s] W fun e w' => e = .returned (.bool (isStrip s.data.toList)) ∧ W = w' := fun W => i_IsStrip s W (by unfold maxLen; omega)
  cases hi : isStrip s.data.toList
  · rw [hi] at hq1
    have HQ1 := hide hq1
    have HR : Hid (cornL s = 0) := by unfold Hid cornL; rw [hi]; rfl
    clear hq1 hi
    go_enter Try.func95, Try.ntmps95
    go_wp2_with (go_at_call 94; refine (unhide HQ1 _).mono ?_; rintro e w' ⟨rfl, rfl⟩)
    go_ret
    exact ⟨none, 0, (by rw [HR.out]; rfl), Below.refl _ _⟩
  · rw [hi] at hq1
    have HQ1 := hide hq1
    have HR : Hid (cornL s = cornN s s.size) := by unfold Hid cornL; rw [hi]; rfl
    clear hq1 hi
    obtain ⟨i0, hi0, hz0, hz1, hz2⟩ := info_parts info_int
    go_enter Try.func95, Try.ntmps95
    go_wp2_with (go_at_call 94; refine (unhide HQ1 _).mono ?_; rintro e w' ⟨rfl, rfl⟩)
    go_loopw [3, 11] (fun o i wr => ∃ (j N : Nat) (A' : Option Addr) (c' : Nat) (xs : List Value), j ≤ s.size ∧ i = .int .i64 j ∧ o = .slice A' N c' ∧ Hid (N = cornN s j) ∧ wr.ownsRow w.heap.size 3 1 (.slice A' N c') N xs ∧ Below w.heap.size w wr) (fun _ i _ => s.size - (intOf i).toNat)
    case atStart =>
      have h := made_at (e := 3) (size := 1) w w.heap.size w.heap.size rfl (Nat.le_refl _)
      exact ⟨0, 0, _, _, _, Nat.zero_le _, rfl, rfl, rfl, h, bel⟩
    case round =>
      obtain ⟨j, N, A', c', xs, hj, rfl, rfl, HN, hown, hb⟩ := hrel
      have hbs := hb.size
      have hNj : N ≤ j := by have := cornN_le s j; have := HN.out; omega
      by_cases hlt : j < s.size
      · cases hcr : cornerAny s (j : Int)
        · have HC := Lib.hid hcr
          have HS := Lib.hid (cornN_no hcr)
          clear hcr
          go_wp2_with (go_at_call 99; refine (i_isCorner s _ _ hs).mono ?_; rintro e w1 ⟨rfl, m, rfl⟩; rw [HC.out])
          go_roundw
          case rel => exact ⟨j + 1, N, A', c', xs, by omega, by go_num, rfl, by unfold Hid; rw [HS.out]; exact HN.out, by exact hown, below_drewN hb _⟩
          case measure => simp [intOf]; omega
        · have HC := Lib.hid hcr
          have HS := Lib.hid (cornN_yes hcr)
          have hone : ∀ u ∈ [Value.int .i64 (j : Int)], u.oneCell' = true := by intro u hu; simp at hu; subst hu; rfl
          clear hcr
          go_wp2_with (first | (go_at_call 99; refine (i_isCorner s _ _ hs).mono ?_; rintro e w1 ⟨rfl, m, rfl⟩; rw [HC.out]; obtain ⟨wq, hwq⟩ : ∃ W, W = wr.drewN m := ⟨_, rfl⟩; (have hownq : wq.ownsRow w.heap.size 3 1 (.slice A' N c') N xs := (by rw [hwq]; exact hown)); (have hbq : Below w.heap.size w wq := (by rw [hwq]; exact below_drewN hb _)); rw [← hwq]; clear hwq hown hb; have hbs := hbq.size) | (at_builtin; refine wpList_append_N _ rfl (.tmp 17) (.tmp 19) _ rfl w.heap.size 3 i0 _ 1 8 Try.underlying77 hi0 hz0 hz1 hz2 rfl (by omega) (.slice A' N c') N xs rfl (hownq.alloc _) (wq.heap.size + 1) (some ⟨wq.heap.size, 0, none⟩) 1 1 [Value.int .i64 (j : Int)] rfl (reads_one _ _) hone ?_ ?_ ?_ (N + 1) (xs ++ [Value.int .i64 (j : Int)]) rfl rfl ?_; (unfold maxLen; omega); omega; (simp; omega); intro A2 c2 w3 ho3 hb3))
          go_roundw
          case rel => exact ⟨j + 1, N + 1, A2, c2, _, by omega, by go_num, rfl, by unfold Hid; rw [HS.out, HN.out], ho3, bel⟩
          case measure => simp [intOf]; omega
      · have hje : j = s.size := by omega
        subst hje
        go_wp2
        go_ret
        exact ⟨A', c', (by rw [HR.out, ← HN.out]; rfl), hb⟩
theorem corn_neq {s : ByteArray} {K j : Nat} (hj : j = K + 1) (h : j < s.size) : cornerAny s (j : Int) = (s[K]'(by omega) != s[j]) := by
  unfold cornerAny
  rw [show ((j : Int) - 1) = (K : Int) by omega, chr_get s K (by omega), chr_get s j h]
  have : inB (j : Int) 1 ((s.size : Int) - 1) = true := inB_iff.2 (by omega)
  rw [this]; rfl
set_option maxHeartbeats 1600000 in
theorem s_CornersOf (s : ByteArray) (w : World) (hs : s.size ≤ 16777216) :
    Calls Try.prog 64 #[.string s] w fun e w' => ∃ A c, e = .returned (.slice A (cornL s) c) ∧ Below w.heap.size w w' := by
  have hq1 : ∀ W : World, Calls Try.prog 63 #[.string s] W fun e w' => e = .returned (.bool (isStrip s.data.toList)) ∧ W = w' := fun W => s_IsStrip s W (by unfold maxLen; omega)
  obtain ⟨i0, hi0, hz0, hz1, hz2⟩ := info_parts info_int
  cases hi : isStrip s.data.toList
  · rw [hi] at hq1
    have HQ1 := hide hq1
    have HR : Hid (cornL s = 0) := by unfold Hid cornL; rw [hi]; rfl
    clear hq1 hi
    go_enter Try.func64, Try.ntmps64
    go_wp2
    go_loopw [3, 4] (fun o i wr => ∃ (j : Nat) (A' : Option Addr) (c' : Nat), i = .int .i64 j ∧ o = .slice A' 0 c' ∧ Below w.heap.size w wr) (fun _ i _ => s.size - (intOf i).toNat)
    case atStart => exact ⟨1, _, _, rfl, rfl, bel⟩
    case round =>
      obtain ⟨j, A', c', rfl, rfl, hb⟩ := hrel
      by_cases hlt : j < s.size
      · go_wp2_with (go_at_call 63; refine (unhide HQ1 _).mono ?_; rintro e w' ⟨rfl, rfl⟩)
        go_ret
        exact ⟨A', c', (by rw [HR.out]; rfl), hb⟩
      · go_wp2
        go_ret
        exact ⟨A', c', (by rw [HR.out]; rfl), hb⟩
  · rw [hi] at hq1
    have HQ1 := hide hq1
    have HR : Hid (cornL s = cornN s s.size) := by unfold Hid cornL; rw [hi]; rfl
    have hp := strip_pos hi
    clear hq1 hi
    go_enter Try.func64, Try.ntmps64
    go_wp2
    go_loopw [3, 4] (fun o i wr => ∃ (j N : Nat) (A' : Option Addr) (c' : Nat) (xs : List Value), 1 ≤ j ∧ j ≤ s.size ∧ i = .int .i64 j ∧ o = .slice A' N c' ∧ Hid (N = cornN s j) ∧ wr.ownsRow w.heap.size 3 1 (.slice A' N c') N xs ∧ Below w.heap.size w wr) (fun _ i _ => s.size - (intOf i).toNat)
    case atStart =>
      have h := made_at (e := 3) (size := 1) w w.heap.size w.heap.size rfl (Nat.le_refl _)
      exact ⟨1, 0, _, _, _, Nat.le_refl _, by omega, rfl, rfl, (cornN_one s).symm, h, bel⟩
    case round =>
      obtain ⟨j, N, A', c', xs, hj1, hj, rfl, rfl, HN, hown, hb⟩ := hrel
      have hbs := hb.size
      have hNj : N ≤ j := by have := cornN_le s j; have := HN.out; omega
      by_cases hlt : j < s.size
      · obtain ⟨K, hKL⟩ : ∃ K, j = K + 1 := ⟨j - 1, by omega⟩
        have hK : K < s.size := by omega
        have e1 : ((j : Int) - 1) = (K : Int) := by omega
        have w1 : IntKind.i64.wrap ((j : Int) - 1) = (K : Int) := by rw [e1, IntWalk.i64_in _ (by omega)]
        have hcn := corn_neq hKL hlt
        have hi0' : (0 : Int) ≤ (K : Int) := Int.natCast_nonneg _
        have hi1' : (K : Int) < (s.size : Int) := by omega
        have hi2' : (j : Int) < (s.size : Int) := by omega
        have HKL := Lib.hid hKL
        have hone : ∀ u ∈ [Value.int .i64 (j : Int)], u.oneCell' = true := by intro u hu; simp at hu; subst hu; rfl
        by_cases hq : s[K] = s[j]
        · have hcr : cornerAny s (j : Int) = false := by rw [hcn, hq]; simp
          have hb1 : ((s[j].toNat : Int) == (s[K].toNat : Int)) = true := by rw [hq]; simp
          have hb2 : ((s[j].toNat : Int) != (s[K].toNat : Int)) = false := by rw [hq]; simp
          have HS := Lib.hid (cornN_no hcr)
          have HE := Lib.hid e1
          clear hcr hcn hq e1 hKL
          go_wp2_with (go_at_call 63; refine (unhide HQ1 _).mono ?_; rintro e w' ⟨rfl, rfl⟩)
          go_quiet (fail)
          go_wp2
          go_roundw
          case rel => exact ⟨j + 1, N, A', c', xs, by omega, by omega, by go_num, rfl, by unfold Hid; rw [HS.out]; exact HN.out, by exact hown, by first | exact below_drewN hb _ | exact hb⟩
          case measure => simp [intOf]; omega
        · have hcr : cornerAny s (j : Int) = true := by rw [hcn]; simpa using hq
          have hne : ¬ (s[j].toNat : Int) = (s[K].toNat : Int) := by
            intro h; apply hq; apply UInt8.toNat_inj.1; omega
          have hb1 : ((s[j].toNat : Int) == (s[K].toNat : Int)) = false := by rw [beq_eq_false_iff_ne]; exact hne
          have hb2 : ((s[j].toNat : Int) != (s[K].toNat : Int)) = true := by rw [bne_iff_ne]; exact hne
          have HS := Lib.hid (cornN_yes hcr)
          have HE := Lib.hid e1
          clear hcr hcn hq e1 hne hKL
          go_wp2_with (go_at_call 63; refine (unhide HQ1 _).mono ?_; rintro e w' ⟨rfl, rfl⟩)
          go_quiet (fail)
          obtain ⟨wq, hwq⟩ : ∃ W, W = wr.drewN nq := ⟨_, rfl⟩
          have hownq : wq.ownsRow w.heap.size 3 1 (.slice A' N c') N xs := by rw [hwq]; exact hown
          have hbq : Below w.heap.size w wq := by rw [hwq]; exact below_drewN hb _
          rw [← hwq]
          clear hwq hown hb
          have hbs := hbq.size
          go_wp2_with (at_builtin; refine wpList_append_N _ rfl (.tmp 24) (.tmp 26) _ rfl w.heap.size 3 i0 _ 1 8 Try.underlying77 hi0 hz0 hz1 hz2 rfl (by omega) (.slice A' N c') N xs rfl (hownq.alloc _) (wq.heap.size + 1) (some ⟨wq.heap.size, 0, none⟩) 1 1 [Value.int .i64 (j : Int)] rfl (reads_one _ _) hone ?_ ?_ ?_ (N + 1) (xs ++ [Value.int .i64 (j : Int)]) rfl rfl ?_; (unfold maxLen; omega); omega; (simp; omega); intro A2 c2 w3 ho3 hb3)
          go_roundw
          case rel => exact ⟨j + 1, N + 1, A2, c2, _, by omega, by omega, by go_num, rfl, by unfold Hid; rw [HS.out, HN.out], ho3, bel⟩
          case measure => simp [intOf]; omega
      · have hje : j = s.size := by omega
        subst hje
        go_wp2
        go_ret
        exact ⟨A', c', (by rw [HR.out, ← HN.out]; rfl), hb⟩
end Go.Proofs.Ytdddglihomchfaa
namespace Go.Proofs.Ytdddglihomchfaa
open Go.ChangeShapes Go.WideShapes Go.ChangeAt Go.RowKit
set_option linter.unusedVariables false
set_option maxRecDepth 10000
def mx (a b : List UInt8) (k : Nat) : Nat := max (cnt 102 (a.take k)) (cnt 102 (b.take k))
def mixAt (a b : List UInt8) (k : Nat) : UInt8 := if mx a b k < mx a b (k + 1) then 102 else 100
def mixL (a b : List UInt8) (n : Nat) : List UInt8 := (List.range n).map (mixAt a b)
def mixP (s t : ByteArray) (n : Nat) : ByteArray := ⟨(mixL s.data.toList t.data.toList n).toArray⟩
def mixB (s t : ByteArray) : ByteArray := if sameFrame s.data.toList t.data.toList = true then mixP s t s.size else ⟨#[]⟩
end Go.Proofs.Ytdddglihomchfaa
namespace Go.Proofs.Ytdddglihomchfaa
open Go.ChangeShapes Go.WideShapes Go.ChangeAt Go.RowKit
set_option linter.unusedVariables false
set_option linter.unusedSimpArgs false
set_option maxRecDepth 10000
def same1 (s t : ByteArray) (k : Nat) : Bool := (chr s (k : Int) == chr t (k : Int)) && (cnt 102 (s.data.toList.take k) == cnt 102 (t.data.toList.take k))
def cutN (s t : ByteArray) : Nat → Nat
  | 0 => 0
  | j + 1 => cutN s t j + if same1 s t j = true then 0 else 1
def cutL (s t : ByteArray) : Nat := if sameFrame s.data.toList t.data.toList = true then cutN s t s.size else 0
end Go.Proofs.Ytdddglihomchfaa
namespace Go.Proofs.Ytdddglihomchfaa
open Go.ChangeShapes Go.WideShapes Go.ChangeAt Go.RowKit
set_option linter.unusedVariables false
set_option maxRecDepth 10000
theorem blk_next {g : Nat} {w w' : World} {o : Obj} (h : w.heap[g]? = some o) (hb : Below w.heap.size w w') : w'.heap[g]? = some o := blk_below h hb (blk_lt h)
theorem l_eqCard_same (d f : Int) (A1 A2 : Option Addr) (n1 n2 c1 c2 : Nat) (ss : List ByteArray) (b1 b2 : Nat) (w : World) (h1 : w.ownsRow b1 9 1 (.slice A1 n1 c1) n1 (ss.map Value.string)) (h2 : w.ownsRow b2 9 1 (.slice A2 n2 c2) n2 (ss.map Value.string)) (hn : ss.length ≤ 16777216) (hs : ∀ x ∈ ss, x.size ≤ 16777216) :
    Calls Try.prog 41 #[.agg #[.int .i64 d, .int .i64 f, .slice A1 n1 c1], .agg #[.int .i64 d, .int .i64 f, .slice A2 n2 c2]] w fun e w' => e = .returned (.bool true) ∧ Below w.heap.size w w' := by
  have hl1 : ss.length = n1 := by have := h1.1; simpa using this
  have hl2 : ss.length = n2 := by have := h2.1; simpa using this
  refine (l_eqCard w.heap.size d f d f A1 A2 n1 n2 c1 c2 ss ss w (strs_of_own h1 (by omega) hs) (strs_of_own h2 (by omega) hs) (Nat.le_refl _)).mono ?_
  rintro e w' ⟨rfl, hb⟩
  exact ⟨ret_bool (by simp [eqSS]), hb⟩
end Go.Proofs.Ytdddglihomchfaa
namespace Go.Proofs.Ytdddglihomchfaa
open Go.ChangeShapes Go.WideShapes Go.ChangeAt Go.RowKit
set_option linter.unusedVariables false
set_option maxRecDepth 10000
theorem own_base {w : World} {base base' : Nat} {e : TypeId} {size : Nat} {v : Value} {n : Nat} {xs : List Value} (h : w.ownsRow base e size v n xs) (hb : base' ≤ base) : w.ownsRow base' e size v n xs :=
  own_up h (Upper.refl _ _) hb
theorem blk_new_at (W : World) (o : Obj) {k : Nat} (hk : W.heap.size = k) : (W.alloc o).heap[k]? = some o := by subst hk; exact blk_new W o
theorem blk7 {w : World} {g : Nat} {t : TypeId} {a0 a1 a2 a3 a4 a5 a6 : Value} (h : w.heap[g]? = some (.cells #[a0, a1, a2, a3, a4, a5, a6] t (0, 0))) :
    w.cell? ⟨g, 0, none⟩ = some a0 ∧ w.cell? ⟨g, 1, none⟩ = some a1 ∧ w.cell? ⟨g, 2, none⟩ = some a2 ∧ w.cell? ⟨g, 3, none⟩ = some a3 ∧ w.cell? ⟨g, 4, none⟩ = some a4 ∧ w.cell? ⟨g, 5, none⟩ = some a5 ∧ w.cell? ⟨g, 6, none⟩ = some a6 ∧ g < w.heap.size :=
  ⟨(blk_cells h 0).1, (blk_cells h 1).1, (blk_cells h 2).1, (blk_cells h 3).1, (blk_cells h 4).1, (blk_cells h 5).1, (blk_cells h 6).1, blk_lt h⟩
theorem sz_ub (ss : List ByteArray) (l : Int) (h : l ≤ 1048576) : szStrs ss l ≤ 1048576 := by
  unfold szStrs; split <;> omega
theorem strs_of_szl {W : World} {A : Option Addr} {n : Nat} {ss : List ByteArray} {l : Int} (hR : Reads W W.heap.size 1 A n (ss.map Value.string)) (hl1 : l ≤ 1048576) (hz : 0 ≤ szStrs ss l) : Strs W W.heap.size A n ss ∧ n ≤ 1048576 := by
  have hl : ss.length = n := by have := hR.1; simpa using this
  unfold szStrs at hz
  split at hz
  · omega
  · exact ⟨⟨hR, by omega, fun s hs => by have := tot_mem hs; omega⟩, by omega⟩
end Go.Proofs.Ytdddglihomchfaa
namespace Go.Proofs.Ytdddglihomchfaa
open Go.ChangeShapes Go.WideShapes Go.ChangeAt Go.RowKit
set_option linter.unusedVariables false
set_option maxRecDepth 10000
section
variable {α : Type} {f : α → List Value} {k : Nat}
end
theorem keep_ofP {B : Nat} {a W : World} (h : Below B a W) : (∀ p : Addr, p.block < B → W.cell? p = a.cell? p) ∧ (∀ p : Addr, p.block < B → W.frozen? p = a.frozen? p) ∧ Below B a W :=
  ⟨fun _ hb => h.cell hb, fun _ hb => h.frozen hb, h⟩
def reps (zs : List Value) (n : Nat) : List Value := (List.replicate n zs).flatten
structure PBox where
  (F L T : Int)
def boxCells (s : PBox) : List Value := [.int .i64 s.F, .int .i64 s.L, .int .i64 s.T]
structure Boxes (w : World) (B : Nat) (A : Option Addr) (n : Nat) (l : List PBox) : Prop where
  rd : Reads w B 3 A n (l.flatMap boxCells)
  nb : n ≤ 16777216
section
variable {w w' : World} {B B' n : Nat} {A : Option Addr} {l : List PBox}
end
structure PStep where
  (K F L T I : Int)
  (b a : ByteArray)
def stepCells (s : PStep) : List Value := [.int .i64 s.K, .int .i64 s.F, .int .i64 s.L, .int .i64 s.T, .int .i64 s.I, .string s.b, .string s.a]
structure Steps (w : World) (B : Nat) (A : Option Addr) (n : Nat) (l : List PStep) : Prop where
  rd : Reads w B 7 A n (l.flatMap stepCells)
  nb : n ≤ 16777216
  sb : ∀ s ∈ l, s.b.size ≤ 16777216 ∧ s.a.size ≤ 16777216
section
variable {w w' : World} {B B' n : Nat} {A : Option Addr} {l : List PStep}
end
structure PPaper where
  (k g s : Int)
def paperCells (s : PPaper) : List Value := [.int .i64 s.k, .int .i64 s.g, .int .i64 s.s]
structure Papers (w : World) (B : Nat) (A : Option Addr) (n : Nat) (l : List PPaper) : Prop where
  rd : Reads w B 3 A n (l.flatMap paperCells)
  nb : n ≤ 16777216
section
variable {w w' : World} {B B' n : Nat} {A : Option Addr} {l : List PPaper}
end
end Go.Proofs.Ytdddglihomchfaa
namespace Go.Proofs.Ytdddglihomchfaa
open Go.ChangeShapes Go.WideShapes Go.ChangeAt Go.RowKit
set_option linter.unusedVariables false
set_option maxRecDepth 10000
section
variable {H : Type} {enc : TypeId × Value → H} {P : Program}
theorem post_of_below {f : Func} {s : ChangeSpec} {apart fresh handsOn again : Bool} {W W' : World} {args : Array Value} {v : Value} {ds gs : List (DataW H)} {before pa pv : List MemPlace}
    (hW : DataW.Whole enc P f.params.toList s.vars apart W args.toList ds gs before)
    (hres : ∀ (b : Nat) (sp : Nat → Bool) (hd : Bool), DataW.TrodAll enc P W' b sp hd f.resultTypes.toList (v.resultList f.resultTypes.size) (s.fn H (ds ++ gs)).results [])
    (hargs : ∀ sp : Nat → Bool, (∀ p ∈ before, sp p.block = true) → DataW.TrodAll enc P W' 0 sp true f.params.toList args.toList (s.fn H (ds ++ gs)).args pa)
    (hvars : ∀ sp : Nat → Bool, (∀ p ∈ before, sp p.block = true) → DataW.TrodVars enc P W' sp s.vars (s.fn H (ds ++ gs)).vars pv)
    (hps : before = pa ++ pv) (hb : Below W.heap.size W W')
    (hok : ∀ (j : Nat) (t : TypeId) (r : Value), f.resultTypes[j]? = some t → (v.resultList f.resultTypes.size)[j]? = some r → Value.okWide P W' .any 0 t r) :
    s.post enc P f apart fresh handsOn again W args v W' := by
  have hlt : ∀ p ∈ before, p.block < W.heap.size := fun p hp => hW.lt p hp
  have hold : ∀ p ∈ before, (fun b => decide (b < W.heap.size)) p.block = true := fun p hp => by simpa using hlt p hp
  refine ⟨ds, gs, before, [], pa, pv, hW, hres _ _ _, hargs _ hold, hvars _ hold, World.keptBut_mono (fun p hp => ⟨hp, ?_⟩) (hb.frame (· ∈ before)), fun _ => ?_⟩
  · rw [hps, List.mem_append] at hp
    exact Or.inr hp
  · obtain ⟨_, _, _, _, _, hz, hn⟩ := hW
    refine ⟨hok, _, _, ([] ++ pa) ++ pv, ⟨[] ++ pa, pv, trodAll_append (hargs _ (fun _ _ => rfl)) (hres _ _ _), hvars _ (fun _ _ => rfl), rfl, ?_, ?_⟩, ?_⟩
    · intro b off hp
      have hin : MemPlace.cell b off ∈ before := by rw [hps]; simpa using hp
      rw [hb.frozen (hlt _ hin)]
      exact hz b off hin
    · intro ha
      have := hn ha
      rw [hps] at this
      simpa using this
    · intro p hp _
      rw [hps]
      simpa using hp
end
theorem own0 : ownKnob Try.prog.godebug = none := by kernel_rfl
theorem laid0 : laidOutB Try.prog = true := by kernel_rfl
theorem trodAll_stays {H : Type} {enc : TypeId × Value → H} {W W' : World} (hb : Below W.heap.size W W') {sp : Nat → Bool} :
    ∀ (ts : List TypeId) (vs : List Value) (ds : List (DataW H)) (ps : List MemPlace), (∀ t ∈ ts, Try.prog.readableRec t = true ∧ t < Try.prog.types.size) →
      DataW.TrodAll enc Try.prog W 0 (fun _ => true) true ts vs ds ps → (∀ p ∈ ps, p.block < W.heap.size) → (∀ p ∈ ps, sp p.block = true) → DataW.TrodAll enc Try.prog W' 0 sp true ts vs ds ps
  | [], vs, ds, ps, _, h, _, _ => by
    cases vs <;> cases ds <;> simp [DataW.TrodAll] at h ⊢
    exact h
  | t :: ts, vs, ds, ps, hr, h, hlt, hsp => by
    obtain ⟨v, vs', d, ds', p, q, rfl, rfl, rfl, h1, h2⟩ := trodAll_cons h
    have hr0 := hr t (List.mem_cons_self)
    exact ⟨p, q, WideElems.Trod_stays laid0 hr0.1 hr0.2 h1 (fun x hx => hb.same (hlt x (List.mem_append_left _ hx))) (fun x hx => hsp x (List.mem_append_left _ hx)),
      trodAll_stays hb ts vs' ds' q (fun t' ht => hr t' (List.mem_cons_of_mem _ ht)) h2 (fun x hx => hlt x (List.mem_append_right _ hx)) (fun x hx => hsp x (List.mem_append_right _ hx)), rfl⟩
theorem post_law {H : Type} {enc : TypeId × Value → H} {f : Func} {s : ChangeSpec} {W W' : World} {args : Array Value} {ds gs : List (DataW H)} {before : List MemPlace}
    (hW : DataW.Whole enc Try.prog f.params.toList s.vars false W args.toList ds gs before) (hv : s.vars = []) (hr : ∀ t ∈ f.params.toList, Try.prog.readableRec t = true ∧ t < Try.prog.types.size)
    (hf : f.resultTypes = #[4]) (hfn : ds.length = f.params.size → s.fn H (ds ++ []) = { results := [.lit (.bool true)], args := ds }) (hb : Below W.heap.size W W') :
    s.post enc Try.prog f false true false false W args (.bool true) W' := by
  have hW' := hW
  obtain ⟨p, q, hA0, hV, hbe, hfz, hnd⟩ := hW
  rw [hv] at hV
  obtain ⟨rfl, rfl⟩ := trodVars_none hV
  simp only [List.append_nil] at hbe
  subst hbe
  have hlen : ds.length = f.params.size := by
    have : ∀ (ts : List TypeId) (vs : List Value) (ds : List (DataW H)) (ps : List MemPlace), DataW.TrodAll enc Try.prog W 0 (fun _ => true) true ts vs ds ps → ds.length = ts.length := by
      intro ts
      induction ts with
      | nil => intro vs ds ps h; cases vs <;> cases ds <;> simp [DataW.TrodAll] at h ⊢
      | cons t ts ih =>
        intro vs ds ps h
        obtain ⟨v, vs', d, ds', p, q, rfl, rfl, rfl, h1, h2⟩ := trodAll_cons h
        simp [ih _ _ _ h2]
    have h := this _ _ _ _ hA0
    simpa using h
  have hfn' := hfn hlen
  refine post_of_below (pa := before) (pv := []) (gs := []) hW' ?_ ?_ ?_ (by simp) hb ?_
  · intro b sp hd
    rw [hfn', hf]
    exact trodAll_mk1 (shut_bool Try.underlying4 true)
  · intro sp hsp
    rw [hfn']
    exact trodAll_stays hb _ _ _ _ hr hA0 (fun x hx => hW'.lt x hx) hsp
  · intro sp _
    rw [hv, hfn']
    rfl
  · intro j t r ht hr2
    rw [hf] at ht hr2
    have hj : j = 0 := by
      rcases Nat.eq_zero_or_pos j with h | h
      · exact h
      · rw [Array.getElem?_eq_none (by simp; omega)] at ht; cases ht
    subst hj
    simp at ht hr2
    subst ht
    have : r = .bool true := by
      simp [Value.resultList] at hr2; exact hr2.symm
    subst this
    exact okWide_bool_mk Try.underlying4 true
end Go.Proofs.Ytdddglihomchfaa
namespace Go.Proofs.Ytdddglihomchfaa
open Go.ChangeShapes Go.WideShapes Go.ChangeAt Go.RowKit
set_option linter.unusedVariables false
set_option maxRecDepth 10000
theorem cells_str : Try.prog.cellsOf 9 = 1 := by kernel_rfl
theorem reads_strings {H : Type} {enc : TypeId × Value → H} {W : World} {n : Nat} {cs : List Value} {x : DataW H × List MemPlace} (h : DataW.trod enc Try.prog W 0 (fun _ => true) true n 22 cs = some x) :
    ∃ (A : Option Addr) (len c : Nat) (ss : List ByteArray), cs = [.slice A len c] ∧ Reads W W.heap.size 1 A len (ss.map Value.string) ∧ len ≤ maxLen ∧ ∀ s ∈ ss, s.size ≤ maxLen := by
  rcases open_strings Try.underlying22 Try.underlying9 cells_str h with ⟨hcs, _⟩ | ⟨a, len, cap, ss, hcs, _, hl, hm, hz, hx, hcell, hws⟩
  · exact ⟨none, 0, 0, [], hcs, Reads.none_, by unfold maxLen; omega, fun s hs => by cases hs⟩
  · refine ⟨some a, len, cap, ss.take len, hcs, ⟨?_, fun h0 => ⟨a, rfl, ?_, ?_⟩⟩, by omega, fun s hs => hws s (List.mem_of_mem_take hs)⟩
    · simp at hz
      simp [List.length_take]; omega
    · have h1 := hcell 0 (by simp at hz; omega)
      have h2 := World.block_lt_of_cell? W _ h1
      rwa [block_of_add] at h2
    · intro j u hu
      rw [List.getElem?_map] at hu
      by_cases hj : j < len
      · have h1 := hcell j (by simp at hz; omega)
        rw [h1]
        rw [List.getElem?_take, if_pos hj] at hu
        have hjl : j < ss.length := by simp at hz; omega
        rw [List.getElem?_eq_getElem hjl] at hu
        simp [List.getD, List.getElem?_eq_getElem hjl] at hu ⊢
        exact hu
      · rw [List.getElem?_take, if_neg hj] at hu
        cases hu
end Go.Proofs.Ytdddglihomchfaa
namespace Go.Proofs.Ytdddglihomchfaa
open Go.ChangeShapes Go.WideShapes Go.ChangeAt Go.RowKit
set_option linter.unusedVariables false
set_option maxRecDepth 10000
def mkBox (k : Int) : List Value := [.int .i64 (k), .int .i64 (k + 1), .int .i64 (k + 1 + 1)]
def marksBox (k : Int) (n : Nat) : List Value := (List.range n).flatMap fun (i : Nat) => mkBox (k + 3 * (i : Int))
end Go.Proofs.Ytdddglihomchfaa
namespace Go.Proofs.Ytdddglihomchfaa
open Go.ChangeShapes Go.WideShapes Go.ChangeAt Go.RowKit
set_option linter.unusedVariables false
set_option maxRecDepth 10000
def szStep (b a : ByteArray) (left : Int) : Int := if left - b.size < 0 then -1 else if left - b.size - a.size < 0 then -1 else left - b.size - a.size
theorem trod_field {H : Type} {enc : TypeId × Value → H} {P : Program} {w : World} {base : Nat} {spare : Nat → Bool} {held : Bool} {t : TypeId} {fs : Array Field} {fuel : Nat} {cs : List Value} {x : DataW H × List MemPlace}
    (ht : P.underlying t = some (.struct fs)) (h : DataW.trod enc P w base spare held fuel t cs = some x) (i : Nat) (f : Field) (hf : fs[i]? = some f) {c : Nat} (hc : P.cellsOf f.type = c) :
    ∃ n y, DataW.trod enc P w base spare held n f.type ((cs.drop f.offset).take c) = some y := by
  obtain ⟨xs, n, _, _, _, hlen, hg⟩ := DataW.trod_struct ht h
  have h1 := hg i f hf
  have hi : i < fs.size := (Array.getElem?_eq_some_iff.1 hf).1
  rw [List.getElem?_eq_getElem (by omega), hc] at h1
  exact ⟨n, _, h1⟩
end Go.Proofs.Ytdddglihomchfaa
namespace Go.Proofs.Ytdddglihomchfaa
open Go.ChangeShapes Go.WideShapes Go.ChangeAt Go.RowKit
set_option linter.unusedVariables false
set_option maxRecDepth 10000
section
variable {w w' : World} {base bg bx n m size size2 : Nat} {e e2 : TypeId} {v vg vx : Value} {xs : List Value}
end
def szN (n : Nat) (left : Int) : Int := if left - n < 0 then -1 else left - n
end Go.Proofs.Ytdddglihomchfaa
namespace Go.Proofs.Ytdddglihomchfaa
open Go.ChangeShapes Go.WideShapes Go.ChangeAt Go.RowKit
set_option linter.unusedVariables false
set_option maxRecDepth 10000
def rowTys : List TypeId := [9
  , 75
  , 31
  , 3
  , 77
  ]
def boxAt (w : World) (k : Nat) : Prop := ∃ cs t fr, w.heap[k]? = some (.cells cs t fr) ∧ t ∉ rowTys
structure Within (lo hi : Nat) (w w' : World) : Prop where
  os : w'.os = w.os
  tape : w'.tape = w.tape
  output : w'.output = w.output
  size : w.heap.size ≤ w'.heap.size
  block : ∀ k, k < w.heap.size → (k < lo ∨ hi ≤ k ∨ boxAt w k) → w'.heap[k]? = w.heap[k]?
section
variable {lo hi lo' hi' : Nat} {w w' a b c : World}
theorem Within.trans (h : Within lo hi a b) (k : Within lo hi b c) : Within lo hi a c :=
  ⟨k.os.trans h.os, k.tape.trans h.tape, k.output.trans h.output, Nat.le_trans h.size k.size, fun i hi h2 => by
    have h3 := h.block i hi h2
    refine (k.block i (Nat.lt_of_lt_of_le hi h.size) ?_).trans h3
    rcases h2 with h2 | h2 | ⟨cs, t, fr, h2, h4⟩
    · exact .inl h2
    · exact .inr (.inl h2)
    · exact .inr (.inr ⟨cs, t, fr, h3.trans h2, h4⟩)⟩
theorem Within.of_below (h : Below w.heap.size w w') : Within lo hi w w' := ⟨h.os, h.tape, h.output, h.size, fun i hi _ => h.block i hi⟩
theorem Within.of_grown {base size n : Nat} {e : TypeId} {v : Value} {xs : List Value} (ho : w.ownsRow base e size v n xs) (he : e ∈ rowTys) (hg : w.grownBy w' v.ownBlock) (h1 : lo ≤ base) (h2 : ∀ k, v.ownBlock = some k → k < hi) : Within lo hi w w' :=
  ⟨hg.os, hg.tape, hg.output, hg.size, fun i hi h3 => hg.block i hi (fun e1 => by
    rcases h3 with h3 | h3 | ⟨cs, t, fr, h3, h4⟩
    · have := (ho.lt i e1.symm).1; omega
    · have := h2 i e1.symm; omega
    · rcases ho.2 with ⟨rfl, _⟩ | ⟨g, cap, cur, rfl, _, hgg, _⟩
      · simp [Value.ownBlock] at e1
      · simp [Value.ownBlock] at e1
        subst e1
        rw [h3] at hgg
        injection hgg with q; injection q with _ q
        subst q
        exact h4 he)⟩
theorem Within.below {B : Nat} (h : Within lo hi w w') (hB : B ≤ lo) (hs : B ≤ w.heap.size) : Below B w w' :=
  ⟨h.os, h.tape, h.output, h.size, fun i hi => h.block i (by omega) (.inl (by omega))⟩
theorem Within.box {g : Nat} {cs : Array Value} {t : TypeId} {fr : Nat × Nat} (h : Within lo hi w w') (hg : w.heap[g]? = some (.cells cs t fr)) (hx : t ∉ rowTys := by decide) : w'.heap[g]? = some (.cells cs t fr) := (h.block g (blk_lt hg) (.inr (.inr ⟨cs, t, fr, hg, hx⟩))).trans hg
theorem own_within {base size n : Nat} {e : TypeId} {v : Value} {xs : List Value} (ho : w.ownsRow base e size v n xs) (h : Within lo hi w w') (hx : ∀ k, v.ownBlock = some k → k < lo ∨ hi ≤ k) : w'.ownsRow base e size v n xs := by
  refine ⟨ho.1, ?_⟩
  rcases ho.2 with hn | ⟨g, cap, cur, rfl, hb, hg, rest⟩
  · exact .inl hn
  · exact .inr ⟨g, cap, cur, rfl, hb, (h.block g (blk_lt hg) (by have := hx g rfl; omega)).trans hg, rest⟩
theorem own_grown {base size n : Nat} {e : TypeId} {v : Value} {xs : List Value} {row : Option Nat} (ho : w.ownsRow base e size v n xs) (hg : w.grownBy w' row) (hx : ∀ k, v.ownBlock = some k → row ≠ some k) : w'.ownsRow base e size v n xs := by
  refine ho.kept hg ?_
  cases hv : v.ownBlock with
  | none => exact .inl rfl
  | some k => exact .inr (fun he => hx k hv he.symm)
theorem own_box {base size n g : Nat} {e : TypeId} {v : Value} {xs : List Value} {cs : Array Value} {t : TypeId} {fr : Nat × Nat} (ho : w.ownsRow base e size v n xs) (he : e ∈ rowTys) (hk : w.heap[g]? = some (.cells cs t fr)) (ht : t ∉ rowTys) (hg : w.grownBy w' (some g)) : w'.ownsRow base e size v n xs := by
  refine own_grown ho hg ?_
  intro k hk2 he2
  injection he2 with he2
  subst he2
  rcases ho.2 with ⟨rfl, _⟩ | ⟨g1, _, _, rfl, _, hg1, _⟩
  · simp [Value.ownBlock] at hk2
  · simp [Value.ownBlock] at hk2
    subst hk2
    rw [hk] at hg1
    injection hg1 with q; injection q with _ q
    subst q
    exact ht he
structure Boxy (w w' : World) : Prop where
  size : w.heap.size ≤ w'.heap.size
  block : ∀ k, k < w.heap.size → ¬ boxAt w k → w'.heap[k]? = w.heap[k]?
theorem boxy {w w' : World} (h : Boxy w w' := by repeat (first | (with_reducible exact Boxy.refl _) | (with_reducible refine Boxy.drew ?_) | (with_reducible refine Boxy.drewN ?_ _) | (with_reducible refine Boxy.alloc ?_ _) | ((with_reducible refine Boxy.setCell ?_ ?hbs _); (case hbs => first | (with_reducible exact .inl (by assumption)) | exact .inl (by assumption) | exact .inr (by simp) | exact .inr (by simp; omega))))) : Boxy w w' := h
end
structure OwnS (w : World) (lo hi : Nat) (A : Option Addr) (c : Nat) (ss : List ByteArray) : Prop where
  row : w.ownsRow lo 9 1 (.slice A ss.length c) ss.length (ss.map Value.string)
  top : ∀ k, (Value.slice A ss.length c).ownBlock = some k → k < hi
section
variable {lo hi lo' hi' : Nat} {w w' : World} {A : Option Addr} {c : Nat} {ss : List ByteArray}
theorem OwnS.within {l h : Nat} (ho : OwnS w lo hi A c ss) (hW : Within l h w w') (hd : hi ≤ l ∨ h ≤ lo) : OwnS w' lo hi A c ss :=
  ⟨own_within ho.row hW (fun k hk => by have h1 := ho.top k hk; have h2 := (ho.row.lt k hk).1; omega), ho.top⟩
theorem OwnS.below (ho : OwnS w lo hi A c ss) (hb : Below w.heap.size w w') : OwnS w' lo hi A c ss := ⟨own_below ho.row hb, ho.top⟩
theorem OwnS.box {g : Nat} {cs : Array Value} {t : TypeId} {fr : Nat × Nat} (ho : OwnS w lo hi A c ss) (hk : w.heap[g]? = some (.cells cs t fr)) (ht : t ∉ rowTys) (hg : w.grownBy w' (some g)) : OwnS w' lo hi A c ss := ⟨own_box ho.row (by decide) hk ht hg, ho.top⟩
theorem OwnS.alloc (ho : OwnS w lo hi A c ss) (o : Obj) : OwnS (w.alloc o) lo hi A c ss := ⟨ho.row.alloc _, ho.top⟩
theorem OwnS.wide (ho : OwnS w lo hi A c ss) (h1 : lo' ≤ lo) (h2 : hi ≤ hi') : OwnS w lo' hi' A c ss := ⟨own_base ho.row h1, fun k hk => by have := ho.top k hk; omega⟩
theorem OwnS.of (ho : w.ownsRow lo 9 1 (.slice A ss.length c) ss.length (ss.map Value.string)) (h : w.heap.size ≤ hi) : OwnS w lo hi A c ss := ⟨ho, fun k hk => by have := (ho.lt k hk).2; omega⟩
theorem OwnS.rd (ho : OwnS w lo hi A c ss) (hn : ss.length ≤ 16777216) (hs : ∀ s ∈ ss, s.size ≤ 16777216) : Strs w w.heap.size A ss.length ss := strs_of_own ho.row hn hs
end
theorem blk7_set {w : World} {g : Nat} {t : TypeId} {z0 z1 z2 z3 z4 z5 z6 : Value} (h : w.heap[g]? = some (.cells #[z0, z1, z2, z3, z4, z5, z6] t (0, 0))) (a0 a1 a2 a3 a4 a5 a6 : Value) :
    (((((((w.setCell ⟨g, 0, none⟩ a0).setCell ⟨g, 1, none⟩ a1).setCell ⟨g, 2, none⟩ a2).setCell ⟨g, 3, none⟩ a3).setCell ⟨g, 4, none⟩ a4).setCell ⟨g, 5, none⟩ a5).setCell ⟨g, 6, none⟩ a6).heap[g]? = some (.cells #[a0, a1, a2, a3, a4, a5, a6] t (0, 0)) := by
  have := blk_set (blk_set (blk_set (blk_set (blk_set (blk_set (blk_set h 0 a0) 1 a1) 2 a2) 3 a3) 4 a4) 5 a5) 6 a6
  simpa using this
end Go.Proofs.Ytdddglihomchfaa
namespace Go.Proofs.Ytdddglihomchfaa
open Go.ChangeShapes Go.WideShapes Go.ChangeAt Go.RowKit
set_option linter.unusedVariables false
set_option linter.unusedSimpArgs false
set_option maxRecDepth 10000
def tilesOf (d f : Int) (ss : List ByteArray) : Int := if cardOk d f ss = true then (ss.length : Int) * (d + f) else -1
def sAt (ss : List ByteArray) (k : Nat) : ByteArray := ss.getD k ⟨#[]⟩
theorem sAt_get (ss : List ByteArray) (k : Nat) (h : k < ss.length) : sAt ss k = ss[k] := by unfold sAt; rw [List.getD_eq_getElem?_getD, List.getElem?_eq_getElem h]; rfl
def cutSum (ss : List ByteArray) : Nat → Nat
  | 0 => 0
  | 1 => 0
  | j + 2 => cutSum ss (j + 1) + cutL (sAt ss j) (sAt ss (j + 1))
def cutLen (d f : Int) (ss : List ByteArray) : Int := if cardOk d f ss = true then (cutSum ss ss.length : Int) else -1
theorem cardOk_bd {d f : Int} {ss : List ByteArray} (h : cardOk d f ss = true) : 1 ≤ d ∧ d ≤ 8 ∧ 1 ≤ f ∧ f ≤ 8 ∧ 1 ≤ ss.length ∧ ss.length ≤ 10 := by
  unfold cardOk isStepsB at h
  simp only [Bool.and_eq_true] at h
  have h1 := inB_iff.1 h.1.1
  have h2 := inB_iff.1 h.1.2
  have h3 := inB_iff.1 h.2.1
  omega
end Go.Proofs.Ytdddglihomchfaa
namespace Go.Proofs.Ytdddglihomchfaa
open Go.ChangeShapes Go.WideShapes Go.ChangeAt Go.RowKit
set_option linter.unusedVariables false
set_option linter.unusedSimpArgs false
set_option maxRecDepth 10000
theorem folds_yes {s : ByteArray} {L : Nat} {a b : Int} (hi : isStrip s.data.toList = true) (hL : s.size = L + 1) (h0 : (if s[0]'(by omega) = 102 then (1 : Int) else 0) = a) (h1 : (if s[L]'(by omega) = 100 then (1 : Int) else 0) = b) : foldsOf s = (cornN s s.size : Int) + a + b := by
  unfold foldsOf
  rw [if_pos hi]
  have e0 : chr s 0 = s[0]'(by omega) := chr_get s 0 (by omega)
  have e1 : chr s ((s.size : Int) - 1) = s[L]'(by omega) := by rw [show (s.size : Int) - 1 = (L : Int) by omega]; exact chr_get s L (by omega)
  rw [e0, e1, h0, h1]
set_option maxHeartbeats 1600000 in
theorem i_CountFolds (s : ByteArray) (w : World) (hs : s.size ≤ 16777216) :
    Calls Try.prog 83 #[.string s] w fun e w' => e = .returned (.int .i64 (foldsOf s)) ∧ Below w.heap.size w w' := by
  have hq1 : ∀ W : World, Calls Try.prog 94 #[.string s] W fun e w' => e = .returned (.bool (isStrip s.data.toList)) ∧ W = w' := fun W => i_IsStrip s W (by unfold maxLen; omega)
  have hq2 : ∀ W : World, Calls Try.prog 95 #[.string s] W fun e w' => ∃ A c, e = .returned (.slice A (cornL s) c) ∧ Below W.heap.size W w' := fun W => i_CornersOf s W hs
  cases hi : isStrip s.data.toList
  · rw [hi] at hq1
    have HQ1 := hide hq1
    have HR : Hid (foldsOf s = -1) := by unfold Hid foldsOf; rw [hi]; rfl
    clear hq1 hq2 hi
    go_enter Try.func83, Try.ntmps83
    go_wp2_with (go_at_call 94; refine (unhide HQ1 _).mono ?_; rintro e w' ⟨rfl, rfl⟩)
    go_ret
    exact ⟨ret_int HR.out.symm, Below.refl _ _⟩
  · have hp := strip_pos hi
    have hc : cornL s = cornN s s.size := by unfold cornL; rw [hi]; rfl
    have hcl := cornN_le s s.size
    rw [hi] at hq1
    rw [hc] at hq2
    have HQ1 := hide hq1
    have HQ2 := hide hq2
    clear hq1 hq2 hc
    obtain ⟨L, hL⟩ : ∃ L, s.size = L + 1 := ⟨s.size - 1, by omega⟩
    have hLs : L < s.size := by omega
    have h0s : 0 < s.size := by omega
    have e1 : ((s.size : Int) - 1) = (L : Int) := by omega
    have w1 : IntKind.i64.wrap ((s.size : Int) - 1) = (L : Int) := by rw [e1, IntWalk.i64_in _ (by omega)]
    have hi1 : (L : Int) < (s.size : Int) := by omega
    have hi2 : (0 : Int) < (s.size : Int) := by omega
    have hN : cornN s s.size ≤ 16777216 := by omega
    generalize hNN : cornN s s.size = N at *
    by_cases ha : s[0] = 102
    · have hb1 : ((s[0].toNat : Int) == 102) = true := by rw [ha]; rfl
      by_cases hb' : s[L] = 100
      · have hb2 : ((s[L].toNat : Int) == 100) = true := by rw [hb']; rfl
        have HR := Lib.hid (folds_yes hi hL (if_pos ha) (if_pos hb'))
        clear ha hb' hi hL e1
        rw [hNN] at HR
        clear hNN
        go_enter Try.func83, Try.ntmps83
        go_wp2_with (first | (go_at_call 94; refine (unhide HQ1 _).mono ?_; rintro e w' ⟨rfl, rfl⟩) | (go_at_call 95; refine (unhide HQ2 _).mono ?_; rintro e w2 ⟨A2, c2, rfl, hb2⟩))
        go_ret
        exact ⟨ret_int (by rw [HR.out]; try omega), hb2⟩
      · have hb2 : ((s[L].toNat : Int) == 100) = false := by rw [beq_eq_false_iff_ne]; intro h; apply hb'; apply UInt8.toNat_inj.1; show _ = 100; omega
        have HR := Lib.hid (folds_yes hi hL (if_pos ha) (if_neg hb'))
        clear ha hb' hi hL e1
        rw [hNN] at HR
        clear hNN
        go_enter Try.func83, Try.ntmps83
        go_wp2_with (first | (go_at_call 94; refine (unhide HQ1 _).mono ?_; rintro e w' ⟨rfl, rfl⟩) | (go_at_call 95; refine (unhide HQ2 _).mono ?_; rintro e w2 ⟨A2, c2, rfl, hb2⟩))
        go_ret
        exact ⟨ret_int (by rw [HR.out]; try omega), hb2⟩
    · have hb1 : ((s[0].toNat : Int) == 102) = false := by rw [beq_eq_false_iff_ne]; intro h; apply ha; apply UInt8.toNat_inj.1; show _ = 102; omega
      by_cases hb' : s[L] = 100
      · have hb2 : ((s[L].toNat : Int) == 100) = true := by rw [hb']; rfl
        have HR := Lib.hid (folds_yes hi hL (if_neg ha) (if_pos hb'))
        clear ha hb' hi hL e1
        rw [hNN] at HR
        clear hNN
        go_enter Try.func83, Try.ntmps83
        go_wp2_with (first | (go_at_call 94; refine (unhide HQ1 _).mono ?_; rintro e w' ⟨rfl, rfl⟩) | (go_at_call 95; refine (unhide HQ2 _).mono ?_; rintro e w2 ⟨A2, c2, rfl, hb2⟩))
        go_ret
        exact ⟨ret_int (by rw [HR.out]; try omega), hb2⟩
      · have hb2 : ((s[L].toNat : Int) == 100) = false := by rw [beq_eq_false_iff_ne]; intro h; apply hb'; apply UInt8.toNat_inj.1; show _ = 100; omega
        have HR := Lib.hid (folds_yes hi hL (if_neg ha) (if_neg hb'))
        clear ha hb' hi hL e1
        rw [hNN] at HR
        clear hNN
        go_enter Try.func83, Try.ntmps83
        go_wp2_with (first | (go_at_call 94; refine (unhide HQ1 _).mono ?_; rintro e w' ⟨rfl, rfl⟩) | (go_at_call 95; refine (unhide HQ2 _).mono ?_; rintro e w2 ⟨A2, c2, rfl, hb2⟩))
        go_ret
        exact ⟨ret_int (by rw [HR.out]; try omega), hb2⟩
set_option maxHeartbeats 1600000 in
theorem s_CountFolds (s : ByteArray) (w : World) (hs : s.size ≤ 16777216) :
    Calls Try.prog 27 #[.string s] w fun e w' => e = .returned (.int .i64 (foldsOf s)) ∧ Below w.heap.size w w' := by
  have hq1 : ∀ W : World, Calls Try.prog 63 #[.string s] W fun e w' => e = .returned (.bool (isStrip s.data.toList)) ∧ W = w' := fun W => s_IsStrip s W (by unfold maxLen; omega)
  have hq2 : ∀ W : World, Calls Try.prog 64 #[.string s] W fun e w' => ∃ A c, e = .returned (.slice A (cornL s) c) ∧ Below W.heap.size W w' := fun W => s_CornersOf s W hs
  cases hi : isStrip s.data.toList
  · rw [hi] at hq1
    have HQ1 := hide hq1
    have HR : Hid (foldsOf s = -1) := by unfold Hid foldsOf; rw [hi]; rfl
    clear hq1 hq2 hi
    go_enter Try.func27, Try.ntmps27
    go_wp2_with (go_at_call 63; refine (unhide HQ1 _).mono ?_; rintro e w' ⟨rfl, rfl⟩)
    go_ret
    exact ⟨ret_int HR.out.symm, Below.refl _ _⟩
  · have hp := strip_pos hi
    have hc : cornL s = cornN s s.size := by unfold cornL; rw [hi]; rfl
    have hcl := cornN_le s s.size
    rw [hi] at hq1
    rw [hc] at hq2
    have HQ1 := hide hq1
    have HQ2 := hide hq2
    clear hq1 hq2 hc
    obtain ⟨L, hL⟩ : ∃ L, s.size = L + 1 := ⟨s.size - 1, by omega⟩
    have hLs : L < s.size := by omega
    have h0s : 0 < s.size := by omega
    have e1 : ((s.size : Int) - 1) = (L : Int) := by omega
    have w1 : IntKind.i64.wrap ((s.size : Int) - 1) = (L : Int) := by rw [e1, IntWalk.i64_in _ (by omega)]
    have hi1 : (L : Int) < (s.size : Int) := by omega
    have hi2 : (0 : Int) < (s.size : Int) := by omega
    have hN : cornN s s.size ≤ 16777216 := by omega
    generalize hNN : cornN s s.size = N at *
    by_cases ha : s[0] = 102
    · have hb1 : ((s[0].toNat : Int) == 102) = true := by rw [ha]; rfl
      by_cases hb' : s[L] = 100
      · have hb2 : ((s[L].toNat : Int) == 100) = true := by rw [hb']; rfl
        have HR := Lib.hid (folds_yes hi hL (if_pos ha) (if_pos hb'))
        clear ha hb' hi hL e1
        rw [hNN] at HR
        clear hNN
        go_enter Try.func27, Try.ntmps27
        go_wp2_with (first | (go_at_call 63; refine (unhide HQ1 _).mono ?_; rintro e w' ⟨rfl, rfl⟩) | (go_at_call 64; refine (unhide HQ2 _).mono ?_; rintro e w2 ⟨A2, c2, rfl, hb2⟩))
        go_ret
        exact ⟨ret_int (by rw [HR.out]; try omega), hb2⟩
      · have hb2 : ((s[L].toNat : Int) == 100) = false := by rw [beq_eq_false_iff_ne]; intro h; apply hb'; apply UInt8.toNat_inj.1; show _ = 100; omega
        have HR := Lib.hid (folds_yes hi hL (if_pos ha) (if_neg hb'))
        clear ha hb' hi hL e1
        rw [hNN] at HR
        clear hNN
        go_enter Try.func27, Try.ntmps27
        go_wp2_with (first | (go_at_call 63; refine (unhide HQ1 _).mono ?_; rintro e w' ⟨rfl, rfl⟩) | (go_at_call 64; refine (unhide HQ2 _).mono ?_; rintro e w2 ⟨A2, c2, rfl, hb2⟩))
        go_ret
        exact ⟨ret_int (by rw [HR.out]; try omega), hb2⟩
    · have hb1 : ((s[0].toNat : Int) == 102) = false := by rw [beq_eq_false_iff_ne]; intro h; apply ha; apply UInt8.toNat_inj.1; show _ = 102; omega
      by_cases hb' : s[L] = 100
      · have hb2 : ((s[L].toNat : Int) == 100) = true := by rw [hb']; rfl
        have HR := Lib.hid (folds_yes hi hL (if_neg ha) (if_pos hb'))
        clear ha hb' hi hL e1
        rw [hNN] at HR
        clear hNN
        go_enter Try.func27, Try.ntmps27
        go_wp2_with (first | (go_at_call 63; refine (unhide HQ1 _).mono ?_; rintro e w' ⟨rfl, rfl⟩) | (go_at_call 64; refine (unhide HQ2 _).mono ?_; rintro e w2 ⟨A2, c2, rfl, hb2⟩))
        go_ret
        exact ⟨ret_int (by rw [HR.out]; try omega), hb2⟩
      · have hb2 : ((s[L].toNat : Int) == 100) = false := by rw [beq_eq_false_iff_ne]; intro h; apply hb'; apply UInt8.toNat_inj.1; show _ = 100; omega
        have HR := Lib.hid (folds_yes hi hL (if_neg ha) (if_neg hb'))
        clear ha hb' hi hL e1
        rw [hNN] at HR
        clear hNN
        go_enter Try.func27, Try.ntmps27
        go_wp2_with (first | (go_at_call 63; refine (unhide HQ1 _).mono ?_; rintro e w' ⟨rfl, rfl⟩) | (go_at_call 64; refine (unhide HQ2 _).mono ?_; rintro e w2 ⟨A2, c2, rfl, hb2⟩))
        go_ret
        exact ⟨ret_int (by rw [HR.out]; try omega), hb2⟩
end Go.Proofs.Ytdddglihomchfaa
namespace Go.Proofs.Ytdddglihomchfaa
open Go.ChangeShapes Go.WideShapes Go.ChangeAt Go.RowKit
set_option linter.unusedVariables false
set_option linter.unusedSimpArgs false
set_option maxRecDepth 10000
def paperOk (K W H : Int) : Bool := inB K 0 9 && (inB W 40 400 && inB H 0 100000)
theorem paperOk_w {K W H : Int} (h : paperOk K W H = true) : 40 ≤ W ∧ W ≤ 400 := by
  unfold paperOk at h
  simp only [Bool.and_eq_true] at h
  exact inB_iff.1 h.2.1
def foldsAl (K W H : Int) : Int := if paperOk K W H = true then Int.tdiv (Int.tdiv 40000 W) 2 else 0
theorem q_bd {W : Int} (h : 40 ≤ W) : 0 ≤ Int.tdiv 40000 W ∧ Int.tdiv 40000 W ≤ 40000 :=
  ⟨Int.tdiv_nonneg (by omega) (by omega), Int.tdiv_le_self _ (by omega)⟩
theorem foldsAl_bd (K W H : Int) : 0 ≤ foldsAl K W H ∧ foldsAl K W H ≤ 40000 := by
  unfold foldsAl
  split
  · rename_i h
    have h1 := q_bd (paperOk_w h).1
    exact ⟨Int.tdiv_nonneg h1.1 (by omega), Int.le_trans (Int.tdiv_le_self _ h1.1) h1.2⟩
  · omega
def copyOk (d f : Int) (ss : List ByteArray) (K W H O : Int) : Bool := cardOk d f ss && (paperOk K W H && inB O 0 1000000)
def mostF (ss : List ByteArray) : Nat → Int
  | 0 => -1
  | j + 1 => if mostF ss j < foldsOf (sAt ss j) then foldsOf (sAt ss j) else mostF ss j
theorem mostF_gt {ss : List ByteArray} {j : Nat} (h : j < ss.length) (h2 : mostF ss j < foldsOf ss[j]) : mostF ss (j + 1) = foldsOf ss[j] := by
  show (if mostF ss j < foldsOf (sAt ss j) then foldsOf (sAt ss j) else mostF ss j) = _
  rw [sAt_get ss j h, if_pos h2]
theorem mostF_le {ss : List ByteArray} {j : Nat} (h : j < ss.length) (h2 : ¬ mostF ss j < foldsOf ss[j]) : mostF ss (j + 1) = mostF ss j := by
  show (if mostF ss j < foldsOf (sAt ss j) then foldsOf (sAt ss j) else mostF ss j) = _
  rw [sAt_get ss j h, if_neg h2]
set_option maxHeartbeats 800000 in
theorem i_PaperOk (K W H : Int) (w : World) :
    Calls Try.prog 67 #[.agg #[.int .i64 K, .int .i64 W, .int .i64 H]] w fun e w' => e = .returned (.bool (paperOk K W H)) ∧ Below w.heap.size w w' := by
  cases h1 : inB K 0 9
  · have HR : Hid (paperOk K W H = false) := by unfold Hid paperOk; rw [h1]; rfl
    go_enter Try.func67, Try.ntmps67
    go_wp2_with (go_at_call 40; refine (i_within _ _ _ _).mono ?_; rintro e w' ⟨rfl, rfl⟩)
    go_ret
    exact ⟨ret_bool HR.out.symm, bel⟩
  · cases h2 : inB W 40 400
    · have HR : Hid (paperOk K W H = false) := by unfold Hid paperOk; rw [h1, h2]; rfl
      go_enter Try.func67, Try.ntmps67
      go_wp2_with (go_at_call 40; refine (i_within _ _ _ _).mono ?_; rintro e w' ⟨rfl, rfl⟩)
      go_ret
      exact ⟨ret_bool HR.out.symm, bel⟩
    · have HR : Hid (paperOk K W H = inB H 0 100000) := by unfold Hid paperOk; rw [h1, h2]; rfl
      go_enter Try.func67, Try.ntmps67
      go_wp2_with (go_at_call 40; refine (i_within _ _ _ _).mono ?_; rintro e w' ⟨rfl, rfl⟩)
      go_ret
      exact ⟨ret_bool HR.out.symm, bel⟩
set_option maxHeartbeats 800000 in
theorem s_PaperOk (K W H : Int) (w : World) :
    Calls Try.prog 65 #[.agg #[.int .i64 K, .int .i64 W, .int .i64 H]] w fun e w' => e = .returned (.bool (paperOk K W H)) ∧ Below w.heap.size w w' := by
  cases h1 : inB K 0 9
  · have HR : Hid (paperOk K W H = false) := by unfold Hid paperOk; rw [h1]; rfl
    go_enter Try.func65, Try.ntmps65
    go_wp2_with (go_at_call 35; refine (s_l01In _ _ _ _).mono ?_; rintro e w' ⟨rfl, rfl⟩)
    go_ret
    exact ⟨ret_bool HR.out.symm, bel⟩
  · cases h2 : inB W 40 400
    · have HR : Hid (paperOk K W H = false) := by unfold Hid paperOk; rw [h1, h2]; rfl
      go_enter Try.func65, Try.ntmps65
      go_wp2_with (go_at_call 35; refine (s_l01In _ _ _ _).mono ?_; rintro e w' ⟨rfl, rfl⟩)
      go_ret
      exact ⟨ret_bool HR.out.symm, bel⟩
    · have HR : Hid (paperOk K W H = inB H 0 100000) := by unfold Hid paperOk; rw [h1, h2]; rfl
      go_enter Try.func65, Try.ntmps65
      go_wp2_with (go_at_call 35; refine (s_l01In _ _ _ _).mono ?_; rintro e w' ⟨rfl, rfl⟩)
      go_ret
      exact ⟨ret_bool HR.out.symm, bel⟩
set_option maxHeartbeats 800000 in
theorem i_FoldsAllowed (K W H : Int) (w : World) :
    Calls Try.prog 62 #[.agg #[.int .i64 K, .int .i64 W, .int .i64 H], .bool true] w fun e w' => e = .returned (.int .i64 (foldsAl K W H)) ∧ Below w.heap.size w w' := by
  cases h : paperOk K W H
  · have HR : Hid (foldsAl K W H = 0) := by unfold Hid foldsAl; rw [h]; rfl
    have HP := Lib.hid h
    clear h
    go_enter Try.func62, Try.ntmps62
    go_wp2_with (go_at_call 67; refine (i_PaperOk K W H _).mono ?_; rw [HP.out]; rintro e w1 ⟨rfl, hb1⟩; obtain ⟨hcb1, hfb1⟩ := bcell hb1; have hz_w1_0 : w.heap.size < w1.heap.size := (by have hzz := hb1.size; (try simp at hzz); omega); have hy_w1_0 := Nat.le_of_lt hz_w1_0)
    go_ret
    exact ⟨ret_int HR.out.symm, bel⟩
  · have HR : Hid (foldsAl K W H = Int.tdiv (Int.tdiv 40000 W) 2) := by unfold Hid foldsAl; rw [h]; rfl
    have HP := Lib.hid h
    obtain ⟨hw40, hw400⟩ := paperOk_w h
    have h1 := q_bd hw40
    have h2 : 0 ≤ Int.tdiv (Int.tdiv 40000 W) 2 := Int.tdiv_nonneg h1.1 (by omega)
    have h3 : Int.tdiv (Int.tdiv 40000 W) 2 ≤ 40000 := Int.le_trans (Int.tdiv_le_self _ h1.1) h1.2
    have hw1 : IntKind.i64.wrap (Int.tdiv 40000 W) = Int.tdiv 40000 W := by rw [IntKind.wrap_i64]; omega
    have hw2 : IntKind.i64.wrap (Int.tdiv (Int.tdiv 40000 W) 2) = Int.tdiv (Int.tdiv 40000 W) 2 := by rw [IntKind.wrap_i64]; omega
    have hW0 : ¬ W = 0 := by omega
    have hWm : ¬ W = -1 := by omega
    clear h h1 h2 h3
    go_enter Try.func62, Try.ntmps62
    go_wp2_with (go_at_call 67; refine (i_PaperOk K W H _).mono ?_; rw [HP.out]; rintro e w1 ⟨rfl, hb1⟩; obtain ⟨hcb1, hfb1⟩ := bcell hb1; have hz_w1_0 : w.heap.size < w1.heap.size := (by have hzz := hb1.size; (try simp at hzz); omega); have hy_w1_0 := Nat.le_of_lt hz_w1_0)
    go_ret
    exact ⟨ret_int HR.out.symm, bel⟩
set_option maxHeartbeats 800000 in
theorem s_FoldsAllowed (K W H : Int) (w : World) :
    Calls Try.prog 29 #[.agg #[.int .i64 K, .int .i64 W, .int .i64 H], .bool true] w fun e w' => e = .returned (.int .i64 (foldsAl K W H)) ∧ Below w.heap.size w w' := by
  cases h : paperOk K W H
  · have HR : Hid (foldsAl K W H = 0) := by unfold Hid foldsAl; rw [h]; rfl
    have HP := Lib.hid h
    clear h
    go_enter Try.func29, Try.ntmps29
    go_wp2_with (go_at_call 65; refine (s_PaperOk K W H _).mono ?_; rw [HP.out]; rintro e w1 ⟨rfl, hb1⟩; obtain ⟨hcb1, hfb1⟩ := bcell hb1; have hz_w1_0 : w.heap.size < w1.heap.size := (by have hzz := hb1.size; (try simp at hzz); omega); have hy_w1_0 := Nat.le_of_lt hz_w1_0)
    go_ret
    exact ⟨ret_int HR.out.symm, bel⟩
  · have HR : Hid (foldsAl K W H = Int.tdiv (Int.tdiv 40000 W) 2) := by unfold Hid foldsAl; rw [h]; rfl
    have HP := Lib.hid h
    obtain ⟨hw40, hw400⟩ := paperOk_w h
    have h1 := q_bd hw40
    have h2 : 0 ≤ Int.tdiv (Int.tdiv 40000 W) 2 := Int.tdiv_nonneg h1.1 (by omega)
    have h3 : Int.tdiv (Int.tdiv 40000 W) 2 ≤ 40000 := Int.le_trans (Int.tdiv_le_self _ h1.1) h1.2
    have hw1 : IntKind.i64.wrap (Int.tdiv 40000 W) = Int.tdiv 40000 W := by rw [IntKind.wrap_i64]; omega
    have hw2 : IntKind.i64.wrap (Int.tdiv (Int.tdiv 40000 W) 2) = Int.tdiv (Int.tdiv 40000 W) 2 := by rw [IntKind.wrap_i64]; omega
    have hW0 : ¬ W = 0 := by omega
    have hWm : ¬ W = -1 := by omega
    clear h h1 h2 h3
    go_enter Try.func29, Try.ntmps29
    go_wp2_with (go_at_call 65; refine (s_PaperOk K W H _).mono ?_; rw [HP.out]; rintro e w1 ⟨rfl, hb1⟩; obtain ⟨hcb1, hfb1⟩ := bcell hb1; have hz_w1_0 : w.heap.size < w1.heap.size := (by have hzz := hb1.size; (try simp at hzz); omega); have hy_w1_0 := Nat.le_of_lt hz_w1_0)
    go_ret
    exact ⟨ret_int HR.out.symm, bel⟩
set_option maxHeartbeats 800000 in
theorem i_CopyOk (d f : Int) (B : Nat) (A : Option Addr) (n c : Nat) (ss : List ByteArray) (K W H O : Int) (w : World) (hS : Strs w B A n ss) (hB : B ≤ w.heap.size) :
    Calls Try.prog 31 #[.agg #[.int .i64 d, .int .i64 f, .slice A n c, .int .i64 K, .int .i64 W, .int .i64 H, .int .i64 O]] w fun e w' => e = .returned (.bool (copyOk d f ss K W H O)) ∧ Below w.heap.size w w' := by
  have hS2 := hS.alloc hB (.cells #[.int .i64 d, .int .i64 f, .slice A n c, .int .i64 K, .int .i64 W, .int .i64 H, .int .i64 O] 33)
  have hka := blk_new w (.cells #[.int .i64 d, .int .i64 f, .slice A n c, .int .i64 K, .int .i64 W, .int .i64 H, .int .i64 O] 33)
  cases hc : cardOk d f ss
  · have HR : Hid (copyOk d f ss K W H O = false) := by unfold Hid copyOk; rw [hc]; rfl
    have HC := Lib.hid hc
    clear hc
    go_enter Try.func31, Try.ntmps31
    go_wp2_with (go_at_call 66; refine (i_CardOk _ _ _ _ _ ss _ (hS2.more (by simp; omega))).mono ?_; rw [HC.out]; rintro e w1 ⟨rfl, hb1⟩; obtain ⟨hcb1, hfb1⟩ := bcell hb1; have hz_w1_0 : w.heap.size < w1.heap.size := (by have hzz := hb1.size; (try simp at hzz); omega); have hy_w1_0 := Nat.le_of_lt hz_w1_0; (have hbw1 : Below w.heap.size w w1 := bel))
    go_ret
    exact ⟨ret_bool HR.out.symm, hbw1⟩
  · cases hp : paperOk K W H
    · have HR : Hid (copyOk d f ss K W H O = false) := by unfold Hid copyOk; rw [hc, hp]; rfl
      have HC := Lib.hid hc
      have HP := Lib.hid hp
      clear hc hp
      go_enter Try.func31, Try.ntmps31
      go_wp2_with (first | (go_at_call 66; refine (i_CardOk _ _ _ _ _ ss _ (hS2.more (by simp; omega))).mono ?_; rw [HC.out]; rintro e w1 ⟨rfl, hb1⟩; obtain ⟨hcb1, hfb1⟩ := bcell hb1; have hz_w1_0 : w.heap.size < w1.heap.size := (by have hzz := hb1.size; (try simp at hzz); omega); have hy_w1_0 := Nat.le_of_lt hz_w1_0; (have hbw1 : Below w.heap.size w w1 := bel)) | (go_at_call 67; refine (i_PaperOk K W H _).mono ?_; rw [HP.out]; rintro e w2 ⟨rfl, hb2⟩; (have hbw2 : Below w.heap.size w w2 := hbw1.trans (hb2.mono hbw1.size)); obtain ⟨hx0, hx1, hx2, hx3, hx4, hx5, hx6, hxl⟩ := blk7 (blk_next (blk_next hka hb1) hb2)))
      go_ret
      exact ⟨ret_bool HR.out.symm, hbw2⟩
    · have HR : Hid (copyOk d f ss K W H O = inB O 0 1000000) := by unfold Hid copyOk; rw [hc, hp]; rfl
      have HC := Lib.hid hc
      have HP := Lib.hid hp
      clear hc hp
      go_enter Try.func31, Try.ntmps31
      go_wp2_with (first | (go_at_call 66; refine (i_CardOk _ _ _ _ _ ss _ (hS2.more (by simp; omega))).mono ?_; rw [HC.out]; rintro e w1 ⟨rfl, hb1⟩; obtain ⟨hcb1, hfb1⟩ := bcell hb1; have hz_w1_0 : w.heap.size < w1.heap.size := (by have hzz := hb1.size; (try simp at hzz); omega); have hy_w1_0 := Nat.le_of_lt hz_w1_0; (have hbw1 : Below w.heap.size w w1 := bel)) | (go_at_call 67; refine (i_PaperOk K W H _).mono ?_; rw [HP.out]; rintro e w2 ⟨rfl, hb2⟩; (have hbw2 : Below w.heap.size w w2 := hbw1.trans (hb2.mono hbw1.size)); obtain ⟨hx0, hx1, hx2, hx3, hx4, hx5, hx6, hxl⟩ := blk7 (blk_next (blk_next hka hb1) hb2)) | (go_at_call 40; refine (i_within _ _ _ _).mono ?_; rintro e w' ⟨rfl, rfl⟩))
      go_ret
      exact ⟨ret_bool HR.out.symm, hbw2⟩
set_option maxHeartbeats 800000 in
theorem s_CopyOk (d f : Int) (B : Nat) (A : Option Addr) (n c : Nat) (ss : List ByteArray) (K W H O : Int) (w : World) (hS : Strs w B A n ss) (hB : B ≤ w.heap.size) :
    Calls Try.prog 34 #[.agg #[.int .i64 d, .int .i64 f, .slice A n c, .int .i64 K, .int .i64 W, .int .i64 H, .int .i64 O]] w fun e w' => e = .returned (.bool (copyOk d f ss K W H O)) ∧ Below w.heap.size w w' := by
  have hS2 := hS.alloc hB (.cells #[.int .i64 d, .int .i64 f, .slice A n c, .int .i64 K, .int .i64 W, .int .i64 H, .int .i64 O] 33)
  have hka := blk_new w (.cells #[.int .i64 d, .int .i64 f, .slice A n c, .int .i64 K, .int .i64 W, .int .i64 H, .int .i64 O] 33)
  cases hc : cardOk d f ss
  · have HR : Hid (copyOk d f ss K W H O = false) := by unfold Hid copyOk; rw [hc]; rfl
    have HC := Lib.hid hc
    clear hc
    go_enter Try.func34, Try.ntmps34
    go_wp2_with (go_at_call 70; refine (s_CardOk _ _ _ _ _ ss _ (hS2.more (by simp; omega))).mono ?_; rw [HC.out]; rintro e w1 ⟨rfl, hb1⟩; obtain ⟨hcb1, hfb1⟩ := bcell hb1; have hz_w1_0 : w.heap.size < w1.heap.size := (by have hzz := hb1.size; (try simp at hzz); omega); have hy_w1_0 := Nat.le_of_lt hz_w1_0; (have hbw1 : Below w.heap.size w w1 := bel))
    go_ret
    exact ⟨ret_bool HR.out.symm, hbw1⟩
  · cases hp : paperOk K W H
    · have HR : Hid (copyOk d f ss K W H O = false) := by unfold Hid copyOk; rw [hc, hp]; rfl
      have HC := Lib.hid hc
      have HP := Lib.hid hp
      clear hc hp
      go_enter Try.func34, Try.ntmps34
      go_wp2_with (first | (go_at_call 70; refine (s_CardOk _ _ _ _ _ ss _ (hS2.more (by simp; omega))).mono ?_; rw [HC.out]; rintro e w1 ⟨rfl, hb1⟩; obtain ⟨hcb1, hfb1⟩ := bcell hb1; have hz_w1_0 : w.heap.size < w1.heap.size := (by have hzz := hb1.size; (try simp at hzz); omega); have hy_w1_0 := Nat.le_of_lt hz_w1_0; (have hbw1 : Below w.heap.size w w1 := bel)) | (go_at_call 65; refine (s_PaperOk K W H _).mono ?_; rw [HP.out]; rintro e w2 ⟨rfl, hb2⟩; (have hbw2 : Below w.heap.size w w2 := hbw1.trans (hb2.mono hbw1.size)); obtain ⟨hx0, hx1, hx2, hx3, hx4, hx5, hx6, hxl⟩ := blk7 (blk_next (blk_next hka hb1) hb2)))
      go_ret
      exact ⟨ret_bool HR.out.symm, hbw2⟩
    · have HR : Hid (copyOk d f ss K W H O = inB O 0 1000000) := by unfold Hid copyOk; rw [hc, hp]; rfl
      have HC := Lib.hid hc
      have HP := Lib.hid hp
      clear hc hp
      go_enter Try.func34, Try.ntmps34
      go_wp2_with (first | (go_at_call 70; refine (s_CardOk _ _ _ _ _ ss _ (hS2.more (by simp; omega))).mono ?_; rw [HC.out]; rintro e w1 ⟨rfl, hb1⟩; obtain ⟨hcb1, hfb1⟩ := bcell hb1; have hz_w1_0 : w.heap.size < w1.heap.size := (by have hzz := hb1.size; (try simp at hzz); omega); have hy_w1_0 := Nat.le_of_lt hz_w1_0; (have hbw1 : Below w.heap.size w w1 := bel)) | (go_at_call 65; refine (s_PaperOk K W H _).mono ?_; rw [HP.out]; rintro e w2 ⟨rfl, hb2⟩; (have hbw2 : Below w.heap.size w w2 := hbw1.trans (hb2.mono hbw1.size)); obtain ⟨hx0, hx1, hx2, hx3, hx4, hx5, hx6, hxl⟩ := blk7 (blk_next (blk_next hka hb1) hb2)) | (go_at_call 35; refine (s_l01In _ _ _ _).mono ?_; rintro e w' ⟨rfl, rfl⟩))
      go_ret
      exact ⟨ret_bool HR.out.symm, hbw2⟩
set_option maxHeartbeats 1600000 in
theorem i_weakest (d f : Int) (B : Nat) (A : Option Addr) (n c : Nat) (ss : List ByteArray) (w : World) (hS : Strs w B A n ss) (hB : B ≤ w.heap.size) :
    Calls Try.prog 61 #[.agg #[.int .i64 d, .int .i64 f, .slice A n c]] w fun e w' => ∃ a : Int, e = .returned (.tuple #[.int .i64 a, .int .i64 (mostF ss n)]) ∧ Below w.heap.size w w' := by
  have hn := hS.nb
  have hl := hS.len
  have HL := Lib.hid hl
  have hka := blk_new w (.cells #[.int .i64 d, .int .i64 f, .slice A n c] 30)
  clear hl
  go_enter Try.func61, Try.ntmps61
  go_wp2
  go_loopw [4, 5, 12] (fun a q i wr => ∃ (j : Nat) (x M : Int), j ≤ n ∧ i = .int .i64 j ∧ a = .int .i64 x ∧ q = .int .i64 M ∧ Hid (M = mostF ss j) ∧ Below (w.heap.size + 1) (w.alloc (.cells #[.int .i64 d, .int .i64 f, .slice A n c] 30)) wr) (fun _ _ i _ => n - (intOf i).toNat)
  case atStart => exact ⟨0, 0, -1, Nat.zero_le _, rfl, rfl, rfl, rfl, Below.refl _ _⟩
  case round =>
    obtain ⟨j, x, M, hj, rfl, rfl, rfl, HM, hb⟩ := hrel
    have hkr := blk_below hka hb (by omega)
    have hzr : w.heap.size < wr.heap.size := blk_lt hkr
    have hbw : Below w.heap.size w wr := ((Below.refl _ _).alloc (Nat.le_refl _) _).trans (hb.mono (by omega))
    have hSr := hS.below (hbw.mono hB)
    by_cases hlt : j < n
    · obtain ⟨hk3, ad, rfl, hab, hcw, hsb⟩ := hSr.at_ (k := j) hlt
      by_cases hgt : mostF ss j < foldsOf ss[j]
      · have HS := Lib.hid (mostF_gt hk3 hgt)
        rw [← HM.out] at hgt
        go_wp2_with (go_at_call 83; refine (i_CountFolds _ _ hsb).mono ?_; rintro e w3 ⟨rfl, hb3⟩)
        go_roundw
        case rel => exact ⟨j + 1, (j : Int), _, by omega, by go_num, rfl, rfl, HS.out.symm, hb.trans (Below.mono hb3 (by omega))⟩
        case measure => simp [intOf]; omega
      · have HS := Lib.hid (mostF_le hk3 hgt)
        rw [← HM.out] at hgt
        go_wp2_with (go_at_call 83; refine (i_CountFolds _ _ hsb).mono ?_; rintro e w3 ⟨rfl, hb3⟩)
        go_roundw
        case rel => exact ⟨j + 1, x, M, by omega, by go_num, rfl, rfl, by unfold Hid; rw [HS.out]; exact HM.out, hb.trans (Below.mono hb3 (by omega))⟩
        case measure => simp [intOf]; omega
    · have hjn : j = n := by omega
      have HM2 : Hid (M = mostF ss n) := by unfold Hid; rw [← hjn]; exact HM.out
      clear hjn
      go_wp2
      refine bodyPost_ret (v := .tuple #[.int .i64 x, .int .i64 M]) (by simp [results, Try.results61, go_sem, *]) rfl ?_
      exact ⟨x, by rw [HM2.out], hbw⟩
end Go.Proofs.Ytdddglihomchfaa
namespace Go.Proofs.Ytdddglihomchfaa
open Go.ChangeShapes Go.WideShapes Go.ChangeAt Go.RowKit
set_option linter.unusedVariables false
set_option linter.unusedSimpArgs false
set_option maxRecDepth 10000
def lifeOf (d f : Int) (ss : List ByteArray) (K W H O : Int) : Int := if copyOk d f ss K W H O = true then Int.tdiv (foldsAl K W H) (max (mostF ss ss.length) 1) else -1
def leftOf (d f : Int) (ss : List ByteArray) (K W H O : Int) : Int := if copyOk d f ss K W H O = true then max (lifeOf d f ss K W H O - O) 0 else -1
theorem life_bd (K W H M : Int) : 0 ≤ Int.tdiv (foldsAl K W H) (max M 1) ∧ Int.tdiv (foldsAl K W H) (max M 1) ≤ 40000 := by
  have h := foldsAl_bd K W H
  exact ⟨Int.tdiv_nonneg h.1 (by omega), Int.le_trans (Int.tdiv_le_self _ h.1) h.2⟩
theorem lifeOf_no {d f : Int} {ss : List ByteArray} {K W H O : Int} (h : copyOk d f ss K W H O = false) : lifeOf d f ss K W H O = -1 := by unfold lifeOf; rw [h]; rfl
theorem lifeOf_yes {d f : Int} {ss : List ByteArray} {K W H O : Int} (h : copyOk d f ss K W H O = true) : lifeOf d f ss K W H O = Int.tdiv (foldsAl K W H) (max (mostF ss ss.length) 1) := by unfold lifeOf; rw [h]; rfl
theorem leftOf_no {d f : Int} {ss : List ByteArray} {K W H O : Int} (h : copyOk d f ss K W H O = false) : leftOf d f ss K W H O = -1 := by unfold leftOf; rw [h]; rfl
theorem leftOf_yes {d f : Int} {ss : List ByteArray} {K W H O : Int} (h : copyOk d f ss K W H O = true) : leftOf d f ss K W H O = max (lifeOf d f ss K W H O - O) 0 := by unfold leftOf; rw [h]; rfl
theorem copyOk_O {d f : Int} {ss : List ByteArray} {K W H O : Int} (h : copyOk d f ss K W H O = true) : 0 ≤ O ∧ O ≤ 1000000 := by
  unfold copyOk at h
  simp only [Bool.and_eq_true] at h
  exact inB_iff.1 h.2.2
theorem copyOk_len {d f : Int} {ss : List ByteArray} {K W H O : Int} (h : copyOk d f ss K W H O = true) : 1 ≤ ss.length := by
  unfold copyOk at h
  simp only [Bool.and_eq_true] at h
  exact (cardOk_bd h.1).2.2.2.2.1
def wInv (ss : List ByteArray) (j b : Nat) : Prop := (j = 0 ∧ b = 0) ∨ (1 ≤ j ∧ foldsOf (sAt ss b) = mostF ss j)
theorem wInv_gt {ss : List ByteArray} {j b : Nat} (h : wInv ss j b) (hj : j < ss.length) (h2 : foldsOf (sAt ss b) < foldsOf ss[j]) : wInv ss (j + 1) j := by
  refine .inr ⟨by omega, ?_⟩
  rw [sAt_get ss j hj]
  rcases h with ⟨rfl, rfl⟩ | ⟨h1, h3⟩
  · rw [sAt_get ss 0 hj] at h2; omega
  · rw [mostF_gt hj (by rw [← h3]; exact h2)]
theorem wInv_le {ss : List ByteArray} {j b : Nat} (h : wInv ss j b) (hj : j < ss.length) (hs : ∀ x ∈ ss, x.size ≤ 16777216) (h2 : ¬ foldsOf (sAt ss b) < foldsOf ss[j]) : wInv ss (j + 1) b := by
  refine .inr ⟨by omega, ?_⟩
  rcases h with ⟨rfl, rfl⟩ | ⟨h1, h3⟩
  · have hb := foldsOf_bd ss[0] (hs _ (List.getElem_mem hj))
    rw [sAt_get ss 0 hj]
    by_cases hq : (-1 : Int) < foldsOf ss[0]
    · rw [mostF_gt hj hq]
    · rw [mostF_le hj hq]; show foldsOf ss[0] = -1; omega
  · rw [mostF_le hj (by rw [← h3]; exact h2)]; exact h3
set_option maxHeartbeats 1600000 in
theorem s_WeakestStrip_no (d f : Int) (B : Nat) (A : Option Addr) (n c : Nat) (ss : List ByteArray) (K W H O : Int) (w : World) (hS : Strs w B A n ss) (hB : B ≤ w.heap.size) (hc : copyOk d f ss K W H O = false) :
    Calls Try.prog 90 #[.agg #[.int .i64 d, .int .i64 f, .slice A n c, .int .i64 K, .int .i64 W, .int .i64 H, .int .i64 O]] w fun e w' => e = .returned (.int .i64 (-1)) ∧ Below w.heap.size w w' := by
  have HC := Lib.hid hc
  have hka := blk_new w (.cells #[.int .i64 d, .int .i64 f, .slice A n c, .int .i64 K, .int .i64 W, .int .i64 H, .int .i64 O] 33)
  clear hc
  go_enter Try.func90, Try.ntmps90
  go_wp2_with (go_at_call 34; refine (s_CopyOk d f B A n c ss K W H O _ (hS.alloc hB _) (by simp; omega)).mono ?_; rw [HC.out]; rintro e w1 ⟨rfl, hb1⟩; (have hk1 := blk_next hka hb1); obtain ⟨hx0, hx1, hx2, hx3, hx4, hx5, hx6, hxl⟩ := blk7 hk1; (have hbw1 : Below w.heap.size w w1 := ((Below.refl _ _).alloc (Nat.le_refl _) _).trans (hb1.mono (by simp))))
  go_ret
  exact ⟨rfl, hbw1⟩
set_option maxHeartbeats 3200000 in
theorem s_WeakestStrip_yes (d f : Int) (B : Nat) (A : Option Addr) (n c : Nat) (ss : List ByteArray) (K W H O : Int) (w : World) (hS : Strs w B A n ss) (hB : B ≤ w.heap.size) (hc : copyOk d f ss K W H O = true) :
    Calls Try.prog 90 #[.agg #[.int .i64 d, .int .i64 f, .slice A n c, .int .i64 K, .int .i64 W, .int .i64 H, .int .i64 O]] w fun e w' => ∃ b : Nat, b < n ∧ e = .returned (.int .i64 b) ∧ foldsOf (sAt ss b) = mostF ss n ∧ Below w.heap.size w w' := by
  have hn := hS.nb
  have hl := hS.len
  have h1n := copyOk_len hc
  rw [hl] at h1n
  have HL := Lib.hid hl
  have HC := Lib.hid hc
  have hka := blk_new w (.cells #[.int .i64 d, .int .i64 f, .slice A n c, .int .i64 K, .int .i64 W, .int .i64 H, .int .i64 O] 33)
  clear hc hl
  go_enter Try.func90, Try.ntmps90
  go_wp2_with (go_at_call 34; refine (s_CopyOk d f B A n c ss K W H O _ (hS.alloc hB _) (by simp; omega)).mono ?_; rw [HC.out]; rintro e w1 ⟨rfl, hb1⟩; (have hk1 := blk_next hka hb1); obtain ⟨hx0, hx1, hx2, hx3, hx4, hx5, hx6, hxl⟩ := blk7 hk1; (have hbw1 : Below w.heap.size w w1 := ((Below.refl _ _).alloc (Nat.le_refl _) _).trans (hb1.mono (by simp))))
  go_loopw [3, 4] (fun q i wr => ∃ j b : Nat, j ≤ n ∧ b < n ∧ i = .int .i64 j ∧ q = .int .i64 b ∧ Hid (wInv ss j b) ∧ Below w1.heap.size w1 wr) (fun _ i _ => n - (intOf i).toNat)
  case atStart => exact ⟨0, 0, Nat.zero_le _, by omega, rfl, rfl, .inl ⟨rfl, rfl⟩, Below.refl _ _⟩
  case round =>
    obtain ⟨j, b, hj, hbn, rfl, rfl, HI, hb⟩ := hrel
    have hbs := hb.size
    have hkr := blk_next hk1 hb
    have hbwr : Below w.heap.size w wr := hbw1.trans (hb.mono hbw1.size)
    have hzr : w.heap.size < wr.heap.size := blk_lt hkr
    clear hx0 hx1 hx2 hx3 hx4 hx5 hx6 hxl
    obtain ⟨hx0, hx1, hx2, hx3, hx4, hx5, hx6, hxl⟩ := blk7 hkr
    have hSr := hS.below (hbwr.mono hB)
    by_cases hlt : j < n
    · obtain ⟨hk3, ad, rfl, hab, hcw, hsb⟩ := hSr.at_ (k := j) hlt
      obtain ⟨hk4, ad', hade, hab', hcw', hsb'⟩ := hSr.at_ (k := b) hbn
      injection hade with hade
      subst hade
      have hsa := sAt_get ss b hk4
      have tok1 : True := trivial
      have hq1 : (ad.add j).block < wr.heap.size := by rw [block_of_add]; omega
      have hq2 : (ad.add b).block < wr.heap.size := by rw [block_of_add]; omega
      have hi1 : (j : Int) < (n : Int) := by omega
      have hi2 : (b : Int) < (n : Int) := by omega
      have hi3 : (0 : Int) ≤ (b : Int) := Int.natCast_nonneg _
      have hi4 : (0 : Int) ≤ (j : Int) := Int.natCast_nonneg _
      by_cases hgt : foldsOf ss[b] < foldsOf ss[j]
      · have HS := Lib.hid (wInv_gt HI.out hk3 (by rw [hsa]; exact hgt))
        clear hsa
        go_wp2_with fail
        go_region_held3 (fun W => (∀ p : Addr, p.block < wr.heap.size → W.cell? p = (wr).cell? p) ∧ (∀ p : Addr, p.block < wr.heap.size → W.frozen? p = (wr).frozen? p) ∧ Below (wr.heap.size) (wr) W) (exact keep_ofP bel) (first | (go_at_call 27; have _t := tok1; have hq := (‹_ ∧ _ ∧ Below _ _ _›).2.2; refine (s_CountFolds _ _ hsb).mono ?_; rintro e w3 ⟨rfl, hb3⟩; clear _t tok1; have hqs3 := hq.size; have hbs3 := hb3.size; (try simp at hqs3); (try simp at hbs3)) | (go_at_call 27; have hq := (‹_ ∧ _ ∧ Below _ _ _›).2.2; refine (s_CountFolds _ _ hsb').mono ?_; rintro e w4 ⟨rfl, hb4⟩; have hqs4 := hq.size; have hbs4 := hb4.size; (try simp at hqs4); (try simp at hbs4)))
        all_goals (
          go_wp2
          go_roundw
          case rel => exact ⟨j + 1, j, by omega, hlt, by go_num, rfl, HS.out, hb.trans (Below.mono (by first | exact bel) hbs)⟩
          case measure => simp [intOf]; omega)
      · have HS := Lib.hid (wInv_le HI.out hk3 hS.sb (by rw [hsa]; exact hgt))
        clear hsa
        go_wp2_with fail
        go_region_held3 (fun W => (∀ p : Addr, p.block < wr.heap.size → W.cell? p = (wr).cell? p) ∧ (∀ p : Addr, p.block < wr.heap.size → W.frozen? p = (wr).frozen? p) ∧ Below (wr.heap.size) (wr) W) (exact keep_ofP bel) (first | (go_at_call 27; have _t := tok1; have hq := (‹_ ∧ _ ∧ Below _ _ _›).2.2; refine (s_CountFolds _ _ hsb).mono ?_; rintro e w3 ⟨rfl, hb3⟩; clear _t tok1; have hqs3 := hq.size; have hbs3 := hb3.size; (try simp at hqs3); (try simp at hbs3)) | (go_at_call 27; have hq := (‹_ ∧ _ ∧ Below _ _ _›).2.2; refine (s_CountFolds _ _ hsb').mono ?_; rintro e w4 ⟨rfl, hb4⟩; have hqs4 := hq.size; have hbs4 := hb4.size; (try simp at hqs4); (try simp at hbs4)))
        all_goals (
          go_wp2
          go_roundw
          case rel => exact ⟨j + 1, b, by omega, hbn, by go_num, rfl, HS.out, hb.trans (Below.mono (by first | exact bel) hbs)⟩
          case measure => simp [intOf]; omega)
    · have hjn : j = n := by omega
      have HF : Hid (foldsOf (sAt ss b) = mostF ss n) := by
        unfold Hid
        rcases HI.out with ⟨h1, h2⟩ | ⟨h1, h2⟩
        · omega
        · rw [← hjn]; exact h2
      clear hjn
      go_wp2
      go_ret
      exact ⟨b, hbn, rfl, HF.out, hbwr⟩
set_option maxHeartbeats 1600000 in
theorem i_LifeOf (d f : Int) (B : Nat) (A : Option Addr) (n c : Nat) (ss : List ByteArray) (K W H O : Int) (w : World) (hS : Strs w B A n ss) (hB : B ≤ w.heap.size) :
    Calls Try.prog 24 #[.agg #[.int .i64 d, .int .i64 f, .slice A n c, .int .i64 K, .int .i64 W, .int .i64 H, .int .i64 O]] w fun e w' => e = .returned (.int .i64 (lifeOf d f ss K W H O)) ∧ Below w.heap.size w w' := by
  have hl := hS.len
  have hka := blk_new w (.cells #[.int .i64 d, .int .i64 f, .slice A n c, .int .i64 K, .int .i64 W, .int .i64 H, .int .i64 O] 33)
  cases hc : copyOk d f ss K W H O
  · have HR := Lib.hid (lifeOf_no hc)
    have HC := Lib.hid hc
    clear hc
    go_enter Try.func24, Try.ntmps24
    go_wp2_with (go_at_call 31; refine (i_CopyOk d f B A n c ss K W H O _ (hS.alloc hB _) (by simp; omega)).mono ?_; rw [HC.out]; rintro e w1 ⟨rfl, hb1⟩; (have hk1 := blk_next hka hb1); obtain ⟨hx0, hx1, hx2, hx3, hx4, hx5, hx6, hxl⟩ := blk7 hk1; (have hbw1 : Below w.heap.size w w1 := ((Below.refl _ _).alloc (Nat.le_refl _) _).trans (hb1.mono (by simp))))
    go_ret
    exact ⟨ret_int HR.out.symm, hbw1⟩
  · have HR := Lib.hid (lifeOf_yes hc)
    have HC := Lib.hid hc
    have hlb := life_bd K W H (mostF ss n)
    rw [hl] at HR
    have hww := fun (W2 : World) (h : Strs W2 B A n ss) (hb : B ≤ W2.heap.size) => i_weakest d f B A n c ss W2 h hb
    generalize mostF ss n = M at *
    have HW := hide hww
    have hm0 : ¬ max M 1 = 0 := by omega
    have hm1 : ¬ max M 1 = -1 := by omega
    have hw1 : IntKind.i64.wrap (Int.tdiv (foldsAl K W H) (max M 1)) = Int.tdiv (foldsAl K W H) (max M 1) := by rw [IntKind.wrap_i64]; omega
    clear hc hl hww hlb
    go_enter Try.func24, Try.ntmps24
    go_wp2_with (first | (go_at_call 31; refine (i_CopyOk d f B A n c ss K W H O _ (hS.alloc hB _) (by simp; omega)).mono ?_; rw [HC.out]; rintro e w1 ⟨rfl, hb1⟩; (have hk1 := blk_next hka hb1); obtain ⟨hx0, hx1, hx2, hx3, hx4, hx5, hx6, hxl⟩ := blk7 hk1; (have hbw1 : Below w.heap.size w w1 := ((Below.refl _ _).alloc (Nat.le_refl _) _).trans (hb1.mono (by simp)))) | (go_at_call 61; refine (unhide HW _ (hS.below (hbw1.mono hB)) (Nat.le_trans hB hbw1.size)).mono ?_; rintro e w2 ⟨x, rfl, hb2⟩; (have hbw2 : Below w.heap.size w w2 := hbw1.trans (hb2.mono hbw1.size)); (have hk2 := blk_next hk1 hb2); obtain ⟨hy0, hy1, hy2, hy3, hy4, hy5, hy6, hyl⟩ := blk7 hk2) | (go_at_call 62; refine (i_FoldsAllowed K W H _).mono ?_; rintro e w3 ⟨rfl, hb3⟩; (have hbw3 : Below w.heap.size w w3 := hbw2.trans (hb3.mono hbw2.size))))
    go_ret
    exact ⟨ret_int HR.out.symm, hbw3⟩
set_option maxHeartbeats 1600000 in
theorem s_LifeOf (d f : Int) (B : Nat) (A : Option Addr) (n c : Nat) (ss : List ByteArray) (K W H O : Int) (w : World) (hS : Strs w B A n ss) (hB : B ≤ w.heap.size) :
    Calls Try.prog 71 #[.agg #[.int .i64 d, .int .i64 f, .slice A n c, .int .i64 K, .int .i64 W, .int .i64 H, .int .i64 O]] w fun e w' => e = .returned (.int .i64 (lifeOf d f ss K W H O)) ∧ Below w.heap.size w w' := by
  have hl := hS.len
  have hka := blk_new w (.cells #[.int .i64 d, .int .i64 f, .slice A n c, .int .i64 K, .int .i64 W, .int .i64 H, .int .i64 O] 33)
  cases hc : copyOk d f ss K W H O
  · have HR := Lib.hid (lifeOf_no hc)
    have HC := Lib.hid hc
    clear hc
    go_enter Try.func71, Try.ntmps71
    go_wp2_with (go_at_call 90; refine (s_WeakestStrip_no d f B A n c ss K W H O _ (hS.alloc hB _) (by simp; omega) HC.out).mono ?_; rintro e w1 ⟨rfl, hb1⟩; (have hbw1 : Below w.heap.size w w1 := ((Below.refl _ _).alloc (Nat.le_refl _) _).trans (hb1.mono (by simp))))
    go_ret
    exact ⟨ret_int HR.out.symm, hbw1⟩
  · have HR := Lib.hid (lifeOf_yes hc)
    have HC := Lib.hid hc
    have hlb := life_bd K W H (mostF ss n)
    rw [hl] at HR
    have hm0 : ¬ max 1 (mostF ss n) = 0 := by omega
    have hm1 : ¬ max 1 (mostF ss n) = -1 := by omega
    have hmc : max (mostF ss n) 1 = max 1 (mostF ss n) := by omega
    rw [hmc] at hlb HR
    have hw1 : IntKind.i64.wrap (Int.tdiv (foldsAl K W H) (max 1 (mostF ss n))) = Int.tdiv (foldsAl K W H) (max 1 (mostF ss n)) := by rw [IntKind.wrap_i64]; omega
    clear hc hl hlb hmc
    go_enter Try.func71, Try.ntmps71
    go_wp2_with (go_at_call 90; refine (s_WeakestStrip_yes d f B A n c ss K W H O _ (hS.alloc hB _) (by simp; omega) HC.out).mono ?_; rintro e w1 ⟨b, hbn, rfl, hfb, hb1⟩; (have hbw1 : Below w.heap.size w w1 := ((Below.refl _ _).alloc (Nat.le_refl _) _).trans (hb1.mono (by simp))); (have hk1 := blk_next hka hb1); obtain ⟨hx0, hx1, hx2, hx3, hx4, hx5, hx6, hxl⟩ := blk7 hk1)
    have hSr := hS.below (hbw1.mono hB)
    have hzw := hbw1.size
    obtain ⟨hk4, ad, rfl, hab, hcw, hsb⟩ := hSr.at_ (k := b) hbn
    rw [sAt_get ss b hk4] at hfb
    have HFB := Lib.hid hfb
    clear hfb
    have hq2 : (ad.add b).block < w1.heap.size := by rw [block_of_add]; omega
    have hi2 : (b : Int) < (n : Int) := by omega
    have hi3 : (0 : Int) ≤ (b : Int) := Int.natCast_nonneg _
    go_region_held3 (fun W => (∀ p : Addr, p.block < w1.heap.size → W.cell? p = (w1).cell? p) ∧ (∀ p : Addr, p.block < w1.heap.size → W.frozen? p = (w1).frozen? p) ∧ Below (w1.heap.size) (w1) W) (exact keep_ofP bel) (first | (go_at_call 29; have hq := (‹_ ∧ _ ∧ Below _ _ _›).2.2; refine (s_FoldsAllowed K W H _).mono ?_; rintro e w3 ⟨rfl, hb3⟩; have hqs3 := hq.size; have hbs3 := hb3.size; (try simp at hqs3); (try simp at hbs3)) | (go_at_call 27; have hq := (‹_ ∧ _ ∧ Below _ _ _›).2.2; refine (s_CountFolds _ _ hsb).mono ?_; rintro e w4 ⟨rfl, hb4⟩; rw [HFB.out]; have hqs4 := hq.size; have hbs4 := hb4.size; (try simp at hqs4); (try simp at hbs4)))
    all_goals (
      go_wp2
      go_ret
      exact ⟨ret_int HR.out.symm, hbw1.trans (Below.mono (by first | exact bel) hzw)⟩)
set_option maxHeartbeats 1600000 in
theorem i_LeftOf (d f : Int) (B : Nat) (A : Option Addr) (n c : Nat) (ss : List ByteArray) (K W H O : Int) (w : World) (hS : Strs w B A n ss) (hB : B ≤ w.heap.size) :
    Calls Try.prog 25 #[.agg #[.int .i64 d, .int .i64 f, .slice A n c, .int .i64 K, .int .i64 W, .int .i64 H, .int .i64 O]] w fun e w' => e = .returned (.int .i64 (leftOf d f ss K W H O)) ∧ Below w.heap.size w w' := by
  have hka := blk_new w (.cells #[.int .i64 d, .int .i64 f, .slice A n c, .int .i64 K, .int .i64 W, .int .i64 H, .int .i64 O] 33)
  cases hc : copyOk d f ss K W H O
  · have HR := Lib.hid (leftOf_no hc)
    have HC := Lib.hid hc
    clear hc
    go_enter Try.func25, Try.ntmps25
    go_wp2_with (go_at_call 31; refine (i_CopyOk d f B A n c ss K W H O _ (hS.alloc hB _) (by simp; omega)).mono ?_; rw [HC.out]; rintro e w1 ⟨rfl, hb1⟩; (have hk1 := blk_next hka hb1); obtain ⟨hx0, hx1, hx2, hx3, hx4, hx5, hx6, hxl⟩ := blk7 hk1; (have hbw1 : Below w.heap.size w w1 := ((Below.refl _ _).alloc (Nat.le_refl _) _).trans (hb1.mono (by simp))))
    go_ret
    exact ⟨ret_int HR.out.symm, hbw1⟩
  · have HR := Lib.hid (leftOf_yes hc)
    have HC := Lib.hid hc
    have hO := copyOk_O hc
    have hlb := life_bd K W H (mostF ss ss.length)
    have hli := lifeOf_yes hc
    rw [← hli] at hlb
    have hlf := fun (W2 : World) (h : Strs W2 B A n ss) (hb : B ≤ W2.heap.size) => i_LifeOf d f B A n c ss K W H O W2 h hb
    clear hli
    generalize lifeOf d f ss K W H O = Q at *
    have HLF := hide hlf
    have hw1 : IntKind.i64.wrap (Q - O) = Q - O := by rw [IntKind.wrap_i64]; omega
    clear hc hlf hlb
    go_enter Try.func25, Try.ntmps25
    go_wp2_with (go_at_call 31; refine (i_CopyOk d f B A n c ss K W H O _ (hS.alloc hB _) (by simp; omega)).mono ?_; rw [HC.out]; rintro e w1 ⟨rfl, hb1⟩; (have hk1 := blk_next hka hb1); obtain ⟨hx0, hx1, hx2, hx3, hx4, hx5, hx6, hxl⟩ := blk7 hk1; (have hbw1 : Below w.heap.size w w1 := ((Below.refl _ _).alloc (Nat.le_refl _) _).trans (hb1.mono (by simp))))
    have hSr := hS.below (hbw1.mono hB)
    have hBw := Nat.le_trans hB hbw1.size
    have hzw := hbw1.size
    go_region_held3 (fun W => (∀ b o, b < w1.heap.size → W.cell? ⟨b, o, none⟩ = (w1).cell? ⟨b, o, none⟩) ∧ (∀ b o, b < w1.heap.size → W.frozen? ⟨b, o, none⟩ = (w1).frozen? ⟨b, o, none⟩) ∧ Below (w1.heap.size) (w1) W) (exact keep_of bel) (first | (go_at_call 24; have hq := (‹_ ∧ _ ∧ Below _ _ _›).2.2; refine (unhide HLF _ ?_ ?_).mono ?_; exact hSr.below (hq.mono hBw); exact Nat.le_trans hBw hq.size; rintro e w3 ⟨rfl, hb3⟩; have hqs3 := hq.size; have hbs3 := hb3.size; (try simp at hqs3); (try simp at hbs3)))
    all_goals (
      go_wp2
      go_ret
      exact ⟨ret_int HR.out.symm, hbw1.trans (Below.mono (by first | exact bel) hzw)⟩)
set_option maxHeartbeats 1600000 in
theorem s_LeftOf (d f : Int) (B : Nat) (A : Option Addr) (n c : Nat) (ss : List ByteArray) (K W H O : Int) (w : World) (hS : Strs w B A n ss) (hB : B ≤ w.heap.size) :
    Calls Try.prog 36 #[.agg #[.int .i64 d, .int .i64 f, .slice A n c, .int .i64 K, .int .i64 W, .int .i64 H, .int .i64 O]] w fun e w' => e = .returned (.int .i64 (leftOf d f ss K W H O)) ∧ Below w.heap.size w w' := by
  have hka := blk_new w (.cells #[.int .i64 d, .int .i64 f, .slice A n c, .int .i64 K, .int .i64 W, .int .i64 H, .int .i64 O] 33)
  have hlf := fun (W2 : World) (h : Strs W2 B A n ss) (hb : B ≤ W2.heap.size) => s_LifeOf d f B A n c ss K W H O W2 h hb
  cases hc : copyOk d f ss K W H O
  · have HR := Lib.hid (leftOf_no hc)
    rw [lifeOf_no hc] at hlf
    have HLF := hide hlf
    clear hc hlf
    go_enter Try.func36, Try.ntmps36
    go_wp2_with (go_at_call 71; refine (unhide HLF _ (hS.alloc hB _) (by simp; omega)).mono ?_; rintro e w1 ⟨rfl, hb1⟩; (have hbw1 : Below w.heap.size w w1 := ((Below.refl _ _).alloc (Nat.le_refl _) _).trans (hb1.mono (by simp))))
    go_ret
    exact ⟨ret_int HR.out.symm, hbw1⟩
  · have HR := Lib.hid (leftOf_yes hc)
    have hO := copyOk_O hc
    have hlb := life_bd K W H (mostF ss ss.length)
    have hli := lifeOf_yes hc
    rw [← hli] at hlb
    clear hli
    generalize lifeOf d f ss K W H O = Q at *
    have HLF := hide hlf
    have hq0 : ¬ Q < 0 := by omega
    have hw1 : IntKind.i64.wrap (Q - O) = Q - O := by rw [IntKind.wrap_i64]; omega
    have HMC : Hid (max (Q - O) 0 = max 0 (Q - O)) := by unfold Hid; omega
    clear hc hlf hlb
    go_enter Try.func36, Try.ntmps36
    go_wp2_with (go_at_call 71; refine (unhide HLF _ (hS.alloc hB _) (by simp; omega)).mono ?_; rintro e w1 ⟨rfl, hb1⟩; (have hbw1 : Below w.heap.size w w1 := ((Below.refl _ _).alloc (Nat.le_refl _) _).trans (hb1.mono (by simp))); (have hk1 := blk_next hka hb1); obtain ⟨hx0, hx1, hx2, hx3, hx4, hx5, hx6, hxl⟩ := blk7 hk1)
    go_ret
    exact ⟨ret_int (by rw [HR.out, HMC.out]), hbw1⟩
end Go.Proofs.Ytdddglihomchfaa
namespace Go.Proofs.Ytdddglihomchfaa
open Go.ChangeShapes Go.WideShapes Go.ChangeAt Go.RowKit
set_option linter.unusedVariables false
set_option maxRecDepth 10000
def OkS (ss : List ByteArray) (m : Nat) : Prop := ss.length ≤ m ∧ ∀ s ∈ ss, s.size ≤ 16777216
theorem OkS.more {ss : List ByteArray} {m k : Nat} (h : OkS ss m) (hk : m ≤ k) : OkS ss k := ⟨by have := h.1; omega, h.2⟩
def UCard (d f : Int) (ss : List ByteArray) (w : World) (e : Ending) (w' : World) : Prop :=
  ∃ A c, e = .returned (.agg #[.int .i64 d, .int .i64 f, .slice A ss.length c]) ∧ OwnS w' w.heap.size w'.heap.size A c ss ∧ Below w.heap.size w w'
def UCardB (d f : Int) (ss : List ByteArray) (b : Bool) (w : World) (e : Ending) (w' : World) : Prop :=
  ∃ A c, e = .returned (.tuple #[.agg #[.int .i64 d, .int .i64 f, .slice A ss.length c], .bool b]) ∧ OwnS w' w.heap.size w'.heap.size A c ss ∧ Below w.heap.size w w'
structure MkS (w : World) (lo hi : Nat) (A : Option Addr) (c : Nat) (k : Int) (n : Nat) : Prop where
  row : w.ownsRow lo 9 1 (.slice A n c) n (marks k n)
  top : ∀ k, (Value.slice A n c).ownBlock = some k → k < hi
section
variable {lo hi : Nat} {w w' : World} {A : Option Addr} {c n : Nat} {k : Int}
theorem MkS.below (h : MkS w lo hi A c k n) (hb : Below w.heap.size w w') : MkS w' lo hi A c k n := ⟨own_below h.row hb, h.top⟩
theorem MkS.alloc (h : MkS w lo hi A c k n) (o : Obj) : MkS (w.alloc o) lo hi A c k n := ⟨h.row.alloc _, h.top⟩
end
theorem u_eqCard (d f : Int) (A1 A2 : Option Addr) (c1 c2 : Nat) (ss : List ByteArray) (lo1 hi1 lo2 hi2 : Nat) (w : World) (h1 : OwnS w lo1 hi1 A1 c1 ss) (h2 : OwnS w lo2 hi2 A2 c2 ss) (hok : OkS ss 16777216) :
    Calls Try.prog 41 #[.agg #[.int .i64 d, .int .i64 f, .slice A1 ss.length c1], .agg #[.int .i64 d, .int .i64 f, .slice A2 ss.length c2]] w fun e w' => e = .returned (.bool true) ∧ Below w.heap.size w w' :=
  l_eqCard_same d f A1 A2 _ _ c1 c2 ss lo1 lo2 w h1.row h2.row hok.1 hok.2
theorem u_markCard (d f : Int) (A : Option Addr) (c : Nat) (ss : List ByteArray) (lo hi : Nat) (k : Int) (w : World) (h : OwnS w lo hi A c ss) (hk0 : 0 ≤ k) (hk1 : k ≤ 4503599627370496) (hn : ss.length ≤ 16777216) :
    Calls Try.prog 43 #[.agg #[.int .i64 d, .int .i64 f, .slice A ss.length c], .int .i64 k] w fun e w' => e = .returned (.int .i64 (k + ss.length)) ∧ MkS w' lo hi A c k ss.length ∧ Within lo hi w w' := by
  refine (l_markCard lo d f A _ c _ k w h.row hk0 hk1 hn).mono ?_
  rintro e w' ⟨rfl, ho, hg⟩
  exact ⟨rfl, ⟨ho, h.top⟩, Within.of_grown h.row (by decide) hg (Nat.le_refl _) h.top⟩
theorem u_heldCard (d f : Int) (A : Option Addr) (c n : Nat) (lo hi : Nat) (k : Int) (w : World) (h : MkS w lo hi A c k n) (hk0 : 0 ≤ k) (hk1 : k ≤ 4503599627370496) (hn : n ≤ 16777216) :
    Calls Try.prog 44 #[.agg #[.int .i64 d, .int .i64 f, .slice A n c], .int .i64 k] w fun e w' => e = .returned (.int .i64 (k + n)) ∧ Below w.heap.size w w' :=
  l_heldCard d f w.heap.size A n c k w (Reads.of_own h.row) (Nat.le_refl _) hk0 hk1 hn
end Go.Proofs.Ytdddglihomchfaa
