/- FnExactMakeCopies: the contracts behind it, part 1. -/
import Derived.Below
import Derived.BigQuiet
import Derived.Deep.AppendLies
import Derived.Deep.Draws
import Derived.Deep.QuietTactic
import Derived.Deep.RegionHeld3
import Derived.Deep.RegionLaw
import Derived.Deep.RegionWith
import Derived.Deep.Slices
import Derived.Deep.Upon
import Derived.Ground.Names2Prog
import Derived.HandedShaped
import Derived.Laws.OwnMore
import Derived.Lib.Hide
import Derived.Lib.RowBridge
import Derived.Lib.SmallJoins
import Derived.Maps.AppendAt
import Derived.OpenShut
import Derived.OwnWalk
import Derived.ProofKit
import Derived.RegionTactic
import Derived.Shelf.LaysM
import Derived.Shelf.Slices.Clone
import Derived.Shelf.Strings.Count
import Derived.Shelf.Strings.RuneCount
import Derived.Shelf.Strings.Search1
import Derived.Shelf.Strings.Search2
import Derived.Shelf.Strings.Search3
import Derived.Shelf.Strings.Shaped
import Derived.Shelf.Strings.Split
import Derived.Shelf.Utf8.RuneCount
import Derived.SliceStrings
import Derived.Test.YtdddglihomchfaaGreatProg
import Derived.WalkKit
import Derived.WalkLawsBesides
import Derived.WalkSmall
import Derived.WalkSpells
import Derived.Test.YtdddglihomchfaaGreatRows
namespace Go.Proofs.YtdddglihomchfaaGreat
open Go.ChangeShapes Go.WideShapes Go.ChangeAt Go.RowKit
def inB (x a b : Int) : Bool := decide (a ≤ x) && decide (x ≤ b)
def cnt (c : UInt8) (l : List UInt8) : Nat := l.count c
theorem cnt_le (c : UInt8) (l : List UInt8) : cnt c l ≤ l.length := List.count_le_length
theorem cnt_snoc (c : UInt8) (l : List UInt8) (x : UInt8) : cnt c (l ++ [x]) = cnt c l + if x = c then 1 else 0 := by
  unfold cnt; rw [List.count_append, List.count_singleton]; by_cases h : x = c <;> simp [h]
theorem cnt_two (l : List UInt8) : cnt 100 l + cnt 102 l ≤ l.length := by
  induction l with
  | nil => simp [cnt]
  | cons x t ih =>
    unfold cnt at *
    rw [List.count_cons, List.count_cons, List.length_cons]
    by_cases h : x = 100
    · subst h; simp; omega
    · by_cases h2 : x = 102
      · subst h2; simp; omega
      · simp [h, h2]; omega
def isStrip (l : List UInt8) : Bool := (cnt 100 l + cnt 102 l == l.length) && (inB (cnt 100 l) 1 8 && inB (cnt 102 l) 1 8)
theorem take_snoc (s : ByteArray) (k : Nat) (h : k < s.size) : s.data.toList.take (k + 1) = s.data.toList.take k ++ [s[k]] := by
  rw [List.take_succ_eq_append_getElem (by simpa using h)]; rfl
theorem ba_ext {a b : ByteArray} (h : a.data.toList = b.data.toList) : a = b := by
  cases a; cases b; simp at h; rw [h]
theorem ret_int {k : IntKind} {a b : Int} (h : a = b) : Ending.returned (.int k a) = .returned (.int k b) := by rw [h]
theorem ret_str {a b : ByteArray} (h : a = b) : Ending.returned (.string a) = .returned (.string b) := by rw [h]
theorem ret_bool {a b : Bool} (h : a = b) : Ending.returned (.bool a) = .returned (.bool b) := by rw [h]
set_option maxHeartbeats 400000 in
theorem i_within (x a b : Int) (w : World) : Calls Tryz.prog 72 #[.int .i64 x, .int .i64 a, .int .i64 b] w fun e w' => e = .returned (.bool (inB x a b)) ∧ w = w' := by
  by_cases h : a ≤ x
  · go_enter Tryz.func72, Tryz.ntmps72
    go_wp2
    go_ret
    exact ⟨by simp [inB, h], rfl⟩
  · go_enter Tryz.func72, Tryz.ntmps72
    go_wp2
    go_ret
    exact ⟨ret_bool (by unfold inB; rw [decide_eq_false (by omega)]; rfl), rfl⟩
set_option maxHeartbeats 400000 in
theorem s_l01In (x a b : Int) (w : World) : Calls Tryz.prog 65 #[.int .i64 x, .int .i64 a, .int .i64 b] w fun e w' => e = .returned (.bool (inB x a b)) ∧ w = w' := by
  by_cases h : a ≤ x
  · go_enter Tryz.func65, Tryz.ntmps65
    go_wp2
    go_ret
    exact ⟨by simp [inB, h], rfl⟩
  · go_enter Tryz.func65, Tryz.ntmps65
    go_wp2
    go_ret
    exact ⟨ret_bool (by unfold inB; rw [decide_eq_false (by omega)]; rfl), rfl⟩
set_option maxHeartbeats 400000 in
theorem s_l02Count (s : ByteArray) (c : UInt8) (w : World) (hs : s.size ≤ maxLen) :
    Calls Tryz.prog 183 #[.string s, .int .u8 c.toNat] w fun e w' => e = .returned (.int .i64 (cnt c s.data.toList)) ∧ w = w' := by
  unfold maxLen at hs
  go_enter Tryz.func183, Tryz.ntmps183
  go_wp2
  go_loop [5, 6] (fun n i => ∃ k : Nat, k ≤ s.size ∧ i = .int .i64 k ∧ n = .int .i64 (cnt c (s.data.toList.take k))) (fun _ i => s.size - (intOf i).toNat)
  case atStart => exact ⟨0, Nat.zero_le _, rfl, rfl⟩
  case round =>
    obtain ⟨k, hk, rfl, rfl⟩ := hrel
    have hd := cnt_le c (s.data.toList.take k)
    have hl : (s.data.toList.take k).length ≤ k := List.length_take_le _ _
    by_cases hlt : k < s.size
    · have hts := take_snoc s k hlt
      have hsn := cnt_snoc c (s.data.toList.take k) s[k]
      rw [← hts] at hsn
      have HS := Lib.hid hsn
      clear hsn hts
      by_cases hc : s[k] = c
      · have hb : ((s[k].toNat : Int) == (c.toNat : Int)) = true := by rw [hc]; simp
        have HC := Lib.hid hc
        clear hc
        go_wp2
        go_round
        case rel => exact ⟨k + 1, by omega, by go_num, by rw [HS.out, if_pos HC.out]; go_num⟩
        case measure => simp [intOf]; omega
      · have hb : ((s[k].toNat : Int) == (c.toNat : Int)) = false := by
          rw [beq_eq_false_iff_ne]; intro h; exact hc (UInt8.toNat_inj.1 (by omega))
        have HC := Lib.hid hc
        clear hc
        go_wp2
        go_round
        case rel => exact ⟨k + 1, by omega, by go_num, by rw [HS.out, if_neg HC.out]; go_num⟩
        case measure => simp [intOf]; omega
    · go_wp2
      go_ret
      exact ⟨ret_int (by rw [List.take_of_length_le (by simp; omega)]), rfl⟩
set_option maxHeartbeats 400000 in
theorem s_IsStrip (s : ByteArray) (w : World) (hs : s.size ≤ maxLen) :
    Calls Tryz.prog 179 #[.string s] w fun e w' => e = .returned (.bool (isStrip s.data.toList)) ∧ w = w' := by
  unfold maxLen at hs
  go_enter Tryz.func179, Tryz.ntmps179
  go_wp2
  go_loop [3, 4, 5] (fun d f i => ∃ k : Nat, k ≤ s.size ∧ i = .int .i64 k ∧ d = .int .i64 (cnt 100 (s.data.toList.take k)) ∧ f = .int .i64 (cnt 102 (s.data.toList.take k)) ∧ k ≤ cnt 100 (s.data.toList.take k) + cnt 102 (s.data.toList.take k)) (fun _ _ i => s.size - (intOf i).toNat)
  case atStart => exact ⟨0, Nat.zero_le _, rfl, rfl, rfl, by simp⟩
  case round =>
    obtain ⟨k, hk, rfl, rfl, rfl, hsum⟩ := hrel
    have hd := cnt_le 100 (s.data.toList.take k)
    have hd2 := cnt_le 102 (s.data.toList.take k)
    have hl : (s.data.toList.take k).length ≤ k := List.length_take_le _ _
    by_cases hlt : k < s.size
    · have hts := take_snoc s k hlt
      have hsn := cnt_snoc 100 (s.data.toList.take k) s[k]
      have hsn2 := cnt_snoc 102 (s.data.toList.take k) s[k]
      rw [← hts] at hsn hsn2
      have HS := Lib.hid hsn
      have HS2 := Lib.hid hsn2
      have hts' := Lib.hid hts
      clear hsn hsn2 hts
      by_cases hc : s[k] = 100
      · have hb : ((s[k].toNat : Int) == 100) = true := by rw [hc]; rfl
        have HC := Lib.hid hc
        clear hc
        go_wp2
        go_round
        case rel =>
          have e1 := HS.out; have e2 := HS2.out
          rw [HC.out] at e1 e2
          simp at e1 e2
          exact ⟨k + 1, by omega, by go_num, by rw [e1]; go_num, by rw [e2], by omega⟩
        case measure => simp [intOf]; omega
      · have hb : ((s[k].toNat : Int) == 100) = false := by
          rw [beq_eq_false_iff_ne]; intro h; exact hc (UInt8.toNat_inj.1 (by show s[k].toNat = 100; omega))
        by_cases hc2 : s[k] = 102
        · have hb2 : ((s[k].toNat : Int) == 102) = true := by rw [hc2]; rfl
          have HC := Lib.hid hc2
          clear hc hc2
          go_wp2
          go_round
          case rel =>
            have e1 := HS.out; have e2 := HS2.out
            rw [HC.out] at e1 e2
            simp at e1 e2
            exact ⟨k + 1, by omega, by go_num, by rw [e1], by rw [e2]; go_num, by omega⟩
          case measure => simp [intOf]; omega
        · have hb2 : ((s[k].toNat : Int) == 102) = false := by
            rw [beq_eq_false_iff_ne]; intro h; exact hc2 (UInt8.toNat_inj.1 (by show s[k].toNat = 102; omega))
          have hfin : isStrip s.data.toList = false := by
            have h1 := cnt_two (s.data.toList.drop (k + 1))
            have e1 := HS.out; have e2 := HS2.out
            rw [if_neg hc] at e1; rw [if_neg hc2] at e2
            have a1 : cnt 100 s.data.toList = cnt 100 (s.data.toList.take (k + 1)) + cnt 100 (s.data.toList.drop (k + 1)) := by
              unfold cnt; rw [← List.count_append, List.take_append_drop]
            have a2 : cnt 102 s.data.toList = cnt 102 (s.data.toList.take (k + 1)) + cnt 102 (s.data.toList.drop (k + 1)) := by
              unfold cnt; rw [← List.count_append, List.take_append_drop]
            have h3 := cnt_two (s.data.toList.take k)
            have hlen : s.data.toList.length = s.size := by simp
            unfold isStrip
            rw [List.length_drop] at h1
            have : (cnt 100 s.data.toList + cnt 102 s.data.toList == s.data.toList.length) = false := by
              rw [beq_eq_false_iff_ne]; omega
            rw [this]; rfl
          have HF := Lib.hid hfin
          clear hc hc2 hfin
          go_wp2
          go_ret
          exact ⟨ret_bool HF.out.symm, rfl⟩
    · have hk' : k = s.size := by omega
      subst hk'
      have ht : s.data.toList.take s.size = s.data.toList := List.take_of_length_le (by simp)
      rw [ht] at hsum hd hd2 ⊢
      have h3 := cnt_two s.data.toList
      have hlen : s.data.toList.length = s.size := by simp
      have HE : Hid ((cnt 100 s.data.toList + cnt 102 s.data.toList == s.data.toList.length) = true) := by
        show _ = true
        rw [beq_iff_eq]; omega
      clear hlen ht hsum h3
      cases hA : inB (cnt 100 s.data.toList) 1 8 <;> cases hB : inB (cnt 102 s.data.toList) 1 8 <;> 
      · go_wp2_with (go_at_call 65; refine (s_l01In _ _ _ _).mono ?_; rintro e w' ⟨rfl, rfl⟩)
        go_ret
        exact ⟨ret_bool (by unfold isStrip; rw [HE.out, hA, hB]; rfl), rfl⟩
end Go.Proofs.YtdddglihomchfaaGreat
namespace Go.Proofs
open Go.Shelf
def Tryz.lays195_ren : Go.Shelf.Ren := ⟨fun | 195 => 199 | n => n, fun | 9 => 9 | 3 => 3 | 0 => 0 | 4 => 4 | n => n, fun | n => n⟩
def Tryz.lays217_ren : Go.Shelf.Ren := ⟨fun | 217 => 211 | 266 => 215 | n => n, fun | 9 => 9 | 5 => 5 | 3 => 3 | n => n, fun | n => n⟩
def Tryz.lays224_ren : Go.Shelf.Ren := ⟨fun | 224 => 213 | n => n, fun | 3 => 3 | n => n, fun | n => n⟩
def Tryz.lays314_ren : Go.Shelf.Ren := ⟨fun | 314 => 216 | n => n, fun | 9 => 9 | 51 => 194 | 3 => 3 | 4 => 4 | 5 => 5 | 46 => 193 | n => n, fun | n => n⟩
def Tryz.lays267_ren : Go.Shelf.Ren := ⟨fun | 267 => 214 | 314 => 216 | n => n, fun | 9 => 9 | 3 => 3 | 146 => 195 | 51 => 194 | 4 => 4 | 5 => 5 | 46 => 193 | n => n, fun | n => n⟩
def Tryz.lays219_ren : Go.Shelf.Ren := ⟨fun | 219 => 208 | 217 => 211 | 225 => 212 | 224 => 213 | 267 => 214 | 266 => 215 | 314 => 216 | n => n, fun | 9 => 9 | 3 => 3 | 4 => 4 | 5 => 5 | 46 => 193 | 146 => 195 | 51 => 194 | n => n, fun | 1 => 0 | n => n⟩
def Tryz.lays143_ren : Go.Shelf.Ren := ⟨fun | 143 => 201 | 219 => 208 | 217 => 211 | 225 => 212 | 224 => 213 | 267 => 214 | 266 => 215 | 314 => 216 | n => n, fun | 9 => 9 | 3 => 3 | 4 => 4 | 5 => 5 | 46 => 193 | 146 => 195 | 51 => 194 | n => n, fun | 1 => 0 | n => n⟩
def Tryz.lays138_ren : Go.Shelf.Ren := ⟨fun | 138 => 189 | 195 => 199 | 218 => 200 | 143 => 201 | 219 => 208 | 217 => 211 | 225 => 212 | 224 => 213 | 267 => 214 | 266 => 215 | 314 => 216 | n => n, fun | 9 => 9 | 3 => 3 | 4 => 4 | 5 => 5 | 0 => 0 | 46 => 193 | 146 => 195 | 51 => 194 | n => n, fun | 1 => 0 | n => n⟩
theorem Tryz.lays138 : Go.Proofs.Lays.n138 Tryz.prog Tryz.lays138_ren := {
  mixed := by kernel_rfl
  f138 := Tryz.func189.trans (congrArg some (by kernel_rfl))
  f143 := Tryz.func201.trans (congrArg some (by kernel_rfl))
  f195 := Tryz.func199.trans (congrArg some (by kernel_rfl))
  f217 := Tryz.func211.trans (congrArg some (by kernel_rfl))
  f218 := Tryz.func200.trans (congrArg some (by kernel_rfl))
  f219 := Tryz.func208.trans (congrArg some (by kernel_rfl))
  f224 := Tryz.func213.trans (congrArg some (by kernel_rfl))
  f225 := Tryz.func212.trans (congrArg some (by kernel_rfl))
  f266 := Tryz.func215.trans (congrArg some (by kernel_rfl))
  f267 := Tryz.func214.trans (congrArg some (by kernel_rfl))
  f314 := Tryz.func216.trans (congrArg some (by kernel_rfl))
  t0 := Tryz.underlying0
  a0 := Tryz.isAgg0
  z0 := Tryz.sizeOf0
  v0 := Tryz.zeroValue0
  t3 := Tryz.underlying3
  a3 := Tryz.isAgg3
  z3 := Tryz.sizeOf3
  v3 := Tryz.zeroValue3
  t4 := Tryz.underlying4
  a4 := Tryz.isAgg4
  z4 := Tryz.sizeOf4
  v4 := Tryz.zeroValue4
  t5 := Tryz.underlying5
  a5 := Tryz.isAgg5
  z5 := Tryz.sizeOf5
  v5 := Tryz.zeroValue5
  t9 := Tryz.underlying9
  a9 := Tryz.isAgg9
  z9 := Tryz.sizeOf9
  v9 := Tryz.zeroValue9
  t46 := Tryz.underlying193
  a46 := Tryz.isAgg193
  z46 := Tryz.sizeOf193
  v46 := Tryz.zeroValue193
  t51 := Tryz.underlying194
  a51 := Tryz.isAgg194
  z51 := Tryz.sizeOf194
  v51 := Tryz.zeroValue194
  t146 := Tryz.underlying195
  a146 := Tryz.isAgg195
  z146 := Tryz.sizeOf195
  v146 := Tryz.zeroValue195
  g1 := by kernel_rfl }
open Go.RowKit Go.Lib in
theorem Tryz.strings_Count_one (s : ByteArray) (c : UInt8) (w : World) :
    Calls Tryz.prog 189 #[.string s, .string ⟨#[c]⟩] w fun e w' => e = .returned (.int .i64 (Lib.countByte s.data.toList c)) ∧ w' = w := Any.strings_Count_one Tryz.lays138 s c w
def Tryz.laysM219_ren : Go.Shelf.Ren := ⟨fun | 219 => 208 | 217 => 211 | 225 => 212 | 224 => 213 | 267 => 214 | 266 => 215 | 314 => 216 | n => n, fun | 9 => 9 | 3 => 3 | 4 => 4 | 5 => 5 | 46 => 193 | 146 => 195 | 51 => 194 | n => n, fun | 1 => 0 | n => n⟩
def Tryz.laysM143_ren : Go.Shelf.Ren := ⟨fun | 143 => 201 | 219 => 208 | 217 => 211 | 225 => 212 | 224 => 213 | 267 => 214 | 266 => 215 | 314 => 216 | n => n, fun | 9 => 9 | 3 => 3 | 4 => 4 | 5 => 5 | 46 => 193 | 146 => 195 | 51 => 194 | n => n, fun | 1 => 0 | n => n⟩
def Tryz.laysM138_ren : Go.Shelf.Ren := ⟨fun | 138 => 189 | 195 => 199 | 218 => 200 | 143 => 201 | 219 => 208 | 217 => 211 | 225 => 212 | 224 => 213 | 267 => 214 | 266 => 215 | 314 => 216 | n => n, fun | 9 => 9 | 3 => 3 | 4 => 4 | 5 => 5 | 0 => 0 | 46 => 193 | 146 => 195 | 51 => 194 | n => n, fun | 1 => 0 | n => n⟩
def Tryz.laysNm216_ren : Go.Shelf.Ren := ⟨fun | 16 => 136 | n => n, fun | 24 => 22 | 9 => 9 | 4 => 4 | n => n, fun | n => n⟩
end Go.Proofs
namespace Go.Proofs.YtdddglihomchfaaGreat
open Go.ChangeShapes Go.WideShapes Go.ChangeAt Go.RowKit
def downOf (l : List UInt8) : Int := if isStrip l = true then cnt 100 l else 0
def forwardOf (l : List UInt8) : Int := if isStrip l = true then cnt 102 l else 0
def isStepsB (n : Int) : Bool := inB n 1 8
theorem strCount (s : ByteArray) (c : UInt8) (w : World) :
    Calls Tryz.prog 189 #[.string s, .string ⟨#[c]⟩] w fun e w' => e = .returned (.int .i64 (cnt c s.data.toList)) ∧ w = w' :=
  (Tryz.strings_Count_one s c w).mono fun _ _ ⟨h1, h2⟩ => ⟨h1, h2.symm⟩
set_option maxHeartbeats 400000 in
theorem i_IsStrip (s : ByteArray) (w : World) (hs : s.size ≤ maxLen) :
    Calls Tryz.prog 181 #[.string s] w fun e w' => e = .returned (.bool (isStrip s.data.toList)) ∧ w = w' := by
  unfold maxLen at hs
  have hd := cnt_le 100 s.data.toList
  have hd2 := cnt_le 102 s.data.toList
  have h3 := cnt_two s.data.toList
  have hlen : s.data.toList.length = s.size := by simp
  rw [hlen] at hd hd2 h3
  cases hE : ((cnt 100 s.data.toList : Int) + (cnt 102 s.data.toList : Int) == (s.size : Int))
  · have HE : (cnt 100 s.data.toList + cnt 102 s.data.toList == s.data.toList.length) = false := by
      rw [beq_eq_false_iff_ne] at hE ⊢; omega
    have HE' := Lib.hid HE
    clear HE hlen
    go_enter Tryz.func181, Tryz.ntmps181
    go_wp2_with (first | (go_at_call 189; refine (strCount _ _ _).mono ?_; rintro e w' ⟨rfl, rfl⟩) | (go_at_call 72; refine (i_within _ _ _ _).mono ?_; rintro e w' ⟨rfl, rfl⟩))
    go_ret
    exact ⟨ret_bool (by unfold isStrip; rw [HE'.out]; rfl), rfl⟩
  · have HE : (cnt 100 s.data.toList + cnt 102 s.data.toList == s.data.toList.length) = true := by
      rw [beq_iff_eq] at hE ⊢; omega
    have HE' := Lib.hid HE
    clear HE hlen
    cases hA : inB (cnt 100 s.data.toList) 1 8 <;> cases hB : inB (cnt 102 s.data.toList) 1 8 <;>
    · go_enter Tryz.func181, Tryz.ntmps181
      go_wp2_with (first | (go_at_call 189; refine (strCount _ _ _).mono ?_; rintro e w' ⟨rfl, rfl⟩) | (go_at_call 72; refine (i_within _ _ _ _).mono ?_; rintro e w' ⟨rfl, rfl⟩))
      go_ret
      exact ⟨ret_bool (by unfold isStrip; rw [HE'.out, hA, hB]; rfl), rfl⟩
set_option maxHeartbeats 400000 in
theorem i_DownOf (s : ByteArray) (w : World) (hs : s.size ≤ maxLen) :
    Calls Tryz.prog 164 #[.string s] w fun e w' => e = .returned (.int .i64 (downOf s.data.toList)) ∧ w = w' := by
  cases hI : isStrip s.data.toList <;>
  · go_enter Tryz.func164, Tryz.ntmps164
    go_wp2_with (first | (go_at_call 189; refine (strCount _ _ _).mono ?_; rintro e w' ⟨rfl, rfl⟩) | (go_at_call 181; refine (i_IsStrip _ _ hs).mono ?_; rintro e w' ⟨rfl, rfl⟩))
    go_ret
    exact ⟨ret_int (by unfold downOf; rw [hI]; rfl), rfl⟩
set_option maxHeartbeats 400000 in
theorem i_ForwardOf (s : ByteArray) (w : World) (hs : s.size ≤ maxLen) :
    Calls Tryz.prog 165 #[.string s] w fun e w' => e = .returned (.int .i64 (forwardOf s.data.toList)) ∧ w = w' := by
  cases hI : isStrip s.data.toList <;>
  · go_enter Tryz.func165, Tryz.ntmps165
    go_wp2_with (first | (go_at_call 189; refine (strCount _ _ _).mono ?_; rintro e w' ⟨rfl, rfl⟩) | (go_at_call 181; refine (i_IsStrip _ _ hs).mono ?_; rintro e w' ⟨rfl, rfl⟩))
    go_ret
    exact ⟨ret_int (by unfold forwardOf; rw [hI]; rfl), rfl⟩
set_option maxHeartbeats 400000 in
theorem s_DownOf (s : ByteArray) (w : World) (hs : s.size ≤ maxLen) :
    Calls Tryz.prog 158 #[.string s] w fun e w' => e = .returned (.int .i64 (downOf s.data.toList)) ∧ w = w' := by
  cases hI : isStrip s.data.toList <;>
  · go_enter Tryz.func158, Tryz.ntmps158
    go_wp2_with (first | (go_at_call 183; refine (s_l02Count _ 100 _ hs).mono ?_; rintro e w' ⟨rfl, rfl⟩) | (go_at_call 179; refine (s_IsStrip _ _ hs).mono ?_; rintro e w' ⟨rfl, rfl⟩))
    go_ret
    exact ⟨ret_int (by unfold downOf; rw [hI]; rfl), rfl⟩
set_option maxHeartbeats 400000 in
theorem s_ForwardOf (s : ByteArray) (w : World) (hs : s.size ≤ maxLen) :
    Calls Tryz.prog 159 #[.string s] w fun e w' => e = .returned (.int .i64 (forwardOf s.data.toList)) ∧ w = w' := by
  cases hI : isStrip s.data.toList <;>
  · go_enter Tryz.func159, Tryz.ntmps159
    go_wp2_with (first | (go_at_call 183; refine (s_l02Count _ 102 _ hs).mono ?_; rintro e w' ⟨rfl, rfl⟩) | (go_at_call 179; refine (s_IsStrip _ _ hs).mono ?_; rintro e w' ⟨rfl, rfl⟩))
    go_ret
    exact ⟨ret_int (by unfold forwardOf; rw [hI]; rfl), rfl⟩
set_option maxHeartbeats 400000 in
theorem i_isSteps (n : Int) (w : World) :
    Calls Tryz.prog 166 #[.int .i64 n] w fun e w' => e = .returned (.bool (isStepsB n)) ∧ w = w' := by
  go_enter Tryz.func166, Tryz.ntmps166
  go_wp2_with (go_at_call 72; refine (i_within _ _ _ _).mono ?_; rintro e w' ⟨rfl, rfl⟩)
  go_ret
  exact ⟨rfl, rfl⟩
set_option maxHeartbeats 400000 in
theorem s_l02Frame (d f : Int) (w : World) :
    Calls Tryz.prog 157 #[.int .i64 d, .int .i64 f] w fun e w' => e = .returned (.bool (isStepsB d && isStepsB f)) ∧ w = w' := by
  cases h1 : inB d 1 8 <;> cases h2 : inB f 1 8 <;>
  · go_enter Tryz.func157, Tryz.ntmps157
    go_wp2_with (go_at_call 65; refine (s_l01In _ _ _ _).mono ?_; rintro e w' ⟨rfl, rfl⟩)
    go_ret
    exact ⟨ret_bool (by unfold isStepsB; rw [h1, h2]; rfl), rfl⟩
end Go.Proofs.YtdddglihomchfaaGreat
namespace Go.Proofs.YtdddglihomchfaaGreat
open Go.ChangeShapes Go.WideShapes Go.ChangeAt Go.RowKit
theorem block_of_add (a : Addr) (n : Nat) : (a.add n).block = a.block := by unfold Addr.add; split <;> rfl
theorem add_of_add (a : Addr) (i j : Nat) : (a.add i).add j = a.add (i + j) := by
  unfold Addr.add
  by_cases hi : i = 0 <;> by_cases hj : j = 0 <;> simp [hi, hj, Nat.add_assoc]
def Reads (w : World) (B size : Nat) (A : Option Addr) (n : Nat) (xs : List Value) : Prop :=
  xs.length = n * size ∧ (0 < n → ∃ ad, A = some ad ∧ ad.block < B ∧ ∀ j u, xs[j]? = some u → w.cell? (ad.add j) = some u)
section
variable {w w' : World} {B B' size n : Nat} {A : Option Addr} {xs : List Value}
theorem Reads.none_ : Reads w B size A 0 [] := ⟨by simp, fun h => absurd h (by omega)⟩
theorem Reads.at_ {k : Nat} (h : Reads w B 1 A n xs) (hk : k < n) : ∃ ad u, A = some ad ∧ ad.block < B ∧ xs[k]? = some u ∧ w.cell? (ad.add k) = some u := by
  obtain ⟨ad, e, hb, hc⟩ := h.2 (by omega)
  have hl : k < xs.length := by have := h.1; omega
  exact ⟨ad, xs[k], e, hb, List.getElem?_eq_getElem hl, hc k _ (List.getElem?_eq_getElem hl)⟩
theorem Reads.keep (h : Reads w B size A n xs) (hk : ∀ p : Addr, p.block < B → w'.cell? p = w.cell? p) : Reads w' B size A n xs :=
  ⟨h.1, fun hn => by
    obtain ⟨ad, e, hb, hc⟩ := h.2 hn
    exact ⟨ad, e, hb, fun j u hu => (hk _ (by rw [block_of_add]; exact hb)).trans (hc j u hu)⟩⟩
theorem Reads.more (h : Reads w B size A n xs) (hB : B ≤ B') : Reads w B' size A n xs :=
  ⟨h.1, fun hn => by
    obtain ⟨ad, e, hb, hc⟩ := h.2 hn
    exact ⟨ad, e, by omega, hc⟩⟩
theorem Reads.below (h : Reads w B size A n xs) (hb : Below B w w') : Reads w' B size A n xs := h.keep fun _ hp => hb.cell hp
theorem Reads.drew (h : Reads w B size A n xs) : Reads w.drew B size A n xs := h
theorem Reads.drewN (h : Reads w B size A n xs) (k : Nat) : Reads (w.drewN k) B size A n xs := h
theorem Reads.alloc (h : Reads w B size A n xs) (hB : B ≤ w.heap.size) (o : Obj) : Reads (w.alloc o) B size A n xs := h.keep fun p hp => World.cell?_alloc_lt w o p (by omega)
theorem Reads.setCell (h : Reads w B size A n xs) {p : Addr} (hB : B ≤ p.block) (u : Value) : Reads (w.setCell p u) B size A n xs :=
  h.keep fun q hq => World.cell?_setCell_other w p q u (fun e => by subst e; omega)
theorem Reads.of_own {base : Nat} {e : TypeId} {c : Nat} (h : w.ownsRow base e size (.slice A n c) n xs) : Reads w w.heap.size size A n xs := by
  refine ⟨h.1, fun hn => ?_⟩
  obtain ⟨g, cap, hv, _, hlt⟩ := h.form hn
  have hA : A = some ⟨g, 0, none⟩ := by injection hv
  subst hA
  exact ⟨_, rfl, hlt, h.cells (g := g) rfl⟩
end
theorem hide {p : Prop} (h : p) : Hid p := h
theorem unhide {p : Prop} (h : Hid p) : p := h
section
variable {P : Program} (w : World)
theorem run_append_of_nil (base : Nat) (t ty e : TypeId) (i : TypeInfo) (size : Nat) (ht : P.underlying t = some (.slice e)) (hi : P.info? e = some i)
    (v : Value) (n : Nat) (xs : List Value) (hown : w.ownsRow base e size v n xs) (c : Nat) : (Builtin.append_ #[t, t] ty #[v, .slice none 0 c]).run P w = .ok v w := by
  rcases hown.2 with ⟨rfl, rfl⟩ | ⟨g, cap, cur, rfl, _, _, hnc, _⟩
  · simp [Builtin.append_, run_underlying ht, sizeOf, typeInfo, hi, Builtin.lenOf, Builtin.firstCells]
  · simp [Builtin.append_, run_underlying ht, sizeOf, typeInfo, hi, Builtin.lenOf, Builtin.firstCells, hnc, storeCells]
theorem run_append_any (base : Nat) (t ty e : TypeId) (i : TypeInfo) (z : Value) (size bytes : Nat) (ht : P.underlying t = some (.slice e)) (hi : P.info? e = some i) (hz : i.zero = some z)
    (hsize : i.size = size) (hby : i.bytes = bytes) (hzs : z.cells.size = size) (hsz : 0 < size)
    (v : Value) (n : Nat) (xs : List Value) (hown : w.ownsRow base e size v n xs)
    (B : Nat) (A : Option Addr) (m c : Nat) (news : List Value) (hr : Reads w B size A m news) (h1 : ∀ u ∈ news, u.oneCell' = true)
    (h63 : n + m ≤ maxLen) (hbytes : (n + m) * bytes ≤ 140737488355328) (hbase : base ≤ w.heap.size) :
    ∃ v' w', (Builtin.append_ #[t, t] ty #[v, .slice A m c]).run P w = .ok v' w' ∧ w'.ownsRow base e size v' (n + m) (xs ++ news) ∧ w.grownBy w' v.ownBlock ∧
      (v'.ownBlock = v.ownBlock ∨ v'.ownBlock = some w.heap.size) := by
  rcases A with _ | ad
  · have hm : m = 0 := by
      rcases Nat.eq_zero_or_pos m with h0 | h0
      · exact h0
      · obtain ⟨ad, h, _⟩ := hr.2 h0
        cases h
    subst hm
    have hn : news = [] := List.eq_nil_of_length_eq_zero (by simpa using hr.1)
    subst hn
    exact ⟨v, w, run_append_of_nil w base t ty e i size ht hi v n xs hown c, by simpa using hown, World.grownBy.refl w _, .inl rfl⟩
  · have hcells : ∀ j u, news[j]? = some u → w.cell? (ad.add j) = some u := by
      intro j u hu
      rcases Nat.eq_zero_or_pos m with h0 | h0
      · subst h0
        have hn : news = [] := List.eq_nil_of_length_eq_zero (by simpa using hr.1)
        subst hn
        simp at hu
      · obtain ⟨ad', h, _, hc⟩ := hr.2 h0
        injection h with h
        subst h
        exact hc j u hu
    obtain ⟨v', w', hrun, h2, h3, _, h5⟩ := run_append_own_at (P := P) w base t ty e i z size bytes ht hi hz hsize hby hzs hsz v n xs hown ad m c news hr.1 hcells h1 h63 hbytes hbase
    exact ⟨v', w', hrun, h2, h3, h5⟩
theorem wp_append_any {o : Oper} {a : Act} {K : Act → World → Prop} {Q : Exit → Act → World → Prop} (s x : Operand) (t : TypeId)
    (ho : o.op = .call { callee := .builtin .append, args := #[s, x], argTypes := #[t, t] })
    (base : Nat) (e : TypeId) (i : TypeInfo) (z : Value) (size bytes : Nat) (ht : P.underlying t = some (.slice e)) (hi : P.info? e = some i) (hz : i.zero = some z)
    (hsize : i.size = size) (hby : i.bytes = bytes) (hzs : z.cells.size = size) (hsz : 0 < size)
    (v : Value) (n : Nat) (xs : List Value) (hs : a.eval s = v) (hown : w.ownsRow base e size v n xs)
    (B : Nat) (A : Option Addr) (m c : Nat) (news : List Value) (hx : a.eval x = .slice A m c) (hr : Reads w B size A m news) (h1 : ∀ u ∈ news, u.oneCell' = true)
    (h63 : n + m ≤ maxLen) (hbytes : (n + m) * bytes ≤ 140737488355328) (hbase : base ≤ w.heap.size)
    (h : ∀ v' w', w'.ownsRow base e size v' (n + m) (xs ++ news) → w.grownBy w' v.ownBlock → (v'.ownBlock = v.ownBlock ∨ v'.ownBlock = some w.heap.size) → K (a.put o.dst v') w') : o.wp P a w K Q := by
  obtain ⟨v', w', hrun, h2, h3, h4⟩ := run_append_any (P := P) w base t o.type e i z size bytes ht hi hz hsize hby hzs hsz v n xs hown B A m c news hr h1 h63 hbytes hbase
  unfold Oper.wp execOp
  simp only [ho, resolve, invoke, builtin, Sem.run_bind, Sem.run_pure, Result.andThen_ok, List.map_toArray, List.map_cons, List.map_nil, hs, hx, hrun]
  exact h v' w' h2 h3 h4
theorem wpList_append_any {ops : Array Oper} {rest : List Oper} {o : Oper} {a : Act} {Q : Exit → Act → World → Prop} (hgd : o.guard = none) (s x : Operand) (t : TypeId)
    (ho : o.op = .call { callee := .builtin .append, args := #[s, x], argTypes := #[t, t] })
    (base : Nat) (e : TypeId) (i : TypeInfo) (z : Value) (size bytes : Nat) (ht : P.underlying t = some (.slice e)) (hi : P.info? e = some i) (hz : i.zero = some z)
    (hsize : i.size = size) (hby : i.bytes = bytes) (hzs : z.cells.size = size) (hsz : 0 < size)
    (v : Value) (n : Nat) (xs : List Value) (hs : a.eval s = v) (hown : w.ownsRow base e size v n xs)
    (B : Nat) (A : Option Addr) (m c : Nat) (news : List Value) (hx : a.eval x = .slice A m c) (hr : Reads w B size A m news) (h1 : ∀ u ∈ news, u.oneCell' = true)
    (h63 : n + m ≤ maxLen) (hbytes : (n + m) * bytes ≤ 140737488355328) (hbase : base ≤ w.heap.size)
    (h : ∀ v' w', w'.ownsRow base e size v' (n + m) (xs ++ news) → w.grownBy w' v.ownBlock → (v'.ownBlock = v.ownBlock ∨ v'.ownBlock = some w.heap.size) → wpList P ops Q rest (a.put o.dst v') w') : wpList P ops Q (o :: rest) a w :=
  wpList_plain hgd fun _ hK => wp_append_any w s x t ho base e i z size bytes ht hi hz hsize hby hzs hsz v n xs hs hown B A m c news hx hr h1 h63 hbytes hbase fun v' w' h2 h3 h4 => hK _ _ (h v' w' h2 h3 h4)
theorem step_append_any {ops : Array Oper} {o : Oper} {a : Act} {K : Act → World → Prop} {Q : Exit → Act → World → Prop} {E : Prop} (hgd : o.guard = none) (s x : Operand) (t : TypeId)
    (ho : o.op = .call { callee := .builtin .append, args := #[s, x], argTypes := #[t, t] })
    (base : Nat) (e : TypeId) (i : TypeInfo) (z : Value) (size bytes : Nat) (ht : P.underlying t = some (.slice e)) (hi : P.info? e = some i) (hz : i.zero = some z)
    (hsize : i.size = size) (hby : i.bytes = bytes) (hzs : z.cells.size = size) (hsz : 0 < size)
    (v : Value) (n : Nat) (xs : List Value) (hs : a.eval s = v) (hown : w.ownsRow base e size v n xs)
    (B : Nat) (A : Option Addr) (m c : Nat) (news : List Value) (hx : a.eval x = .slice A m c) (hr : Reads w B size A m news) (h1 : ∀ u ∈ news, u.oneCell' = true)
    (h63 : n + m ≤ maxLen) (hbytes : (n + m) * bytes ≤ 140737488355328) (hbase : base ≤ w.heap.size)
    (h : ∀ v' w', w'.ownsRow base e size v' (n + m) (xs ++ news) → w.grownBy w' v.ownBlock → (v'.ownBlock = v.ownBlock ∨ v'.ownBlock = some w.heap.size) → K (a.put o.dst v') w') :
    if Region.wanted o (yielded ops a.tmps) = true then Oper.wp P o a w K Q else E := by
  have hw : Region.wanted o (yielded ops a.tmps) = true := by simp [Region.wanted, hgd]
  rw [if_pos hw]
  exact wp_append_any w s x t ho base e i z size bytes ht hi hz hsize hby hzs hsz v n xs hs hown B A m c news hx hr h1 h63 hbytes hbase h
end
theorem quiet_add {P : Program} {f : FuncId} {args : Array Value} {w : World} {a n : Nat} {v : Value}
    (h : Calls P f args (w.drewN (a + n)) fun e w' => e = .returned v ∧ ∃ m, w' = (w.drewN (a + n)).drewN m) :
    Calls P f args (w.drewN (a + n)) fun e w'' => e = .returned v ∧ ∃ m, w'' = w.drewN (a + m) :=
  h.mono fun _ _ ⟨he, m, hm⟩ => ⟨he, n + m, by rw [hm, World.drewN_drewN, Nat.add_assoc]⟩
theorem quiet_add_left {P : Program} {f : FuncId} {args : Array Value} {w : World} {a n : Nat} {v : Value}
    (h : Calls P f args (w.drewN (a + n)) fun e w' => e = .returned v ∧ w.drewN (a + n) = w') :
    Calls P f args (w.drewN (a + n)) fun e w'' => e = .returned v ∧ ∃ m, w'' = w.drewN (a + m) :=
  h.mono fun _ _ ⟨he, hm⟩ => ⟨he, n, hm.symm⟩
theorem quiet_left {P : Program} {f : FuncId} {args : Array Value} {w : World} {n : Nat} {v : Value}
    (h : Calls P f args (w.drewN n) fun e w' => e = .returned v ∧ w.drewN n = w') : Calls P f args (w.drewN n) fun e w'' => e = .returned v ∧ ∃ m, w'' = w.drewN m :=
  h.mono fun _ _ ⟨he, hm⟩ => ⟨he, n, hm.symm⟩
theorem below_drewN {B : Nat} {a w : World} (h : Below B a w) (n : Nat) : Below B a (w.drewN n) := ⟨h.os, h.tape, h.output, h.size, h.block⟩
theorem only_drewN {a w : World} {row : Option Nat} (h : a.grownBy w row) (n : Nat) : a.grownBy (w.drewN n) row := ⟨h.os, h.tape, h.output, h.size, h.block⟩
theorem only_setCell {a w : World} {g : Nat} (h : a.grownBy w (some g)) {p : Addr} (hp : p.block = g ∨ a.heap.size ≤ p.block) (u : Value) : a.grownBy (w.setCell p u) (some g) :=
  ⟨h.os, h.tape, h.output, by simpa [World.setCell] using h.size, fun i hi hne => (Below.heap_setCell w p u i (by
    rintro rfl
    rcases hp with hp | hp
    · exact hne (by rw [hp])
    · omega)).trans (h.block i hi hne)⟩
theorem run_make_rowN {P : Program} (t e : TypeId) (i : TypeInfo) (z : Value) (ht : P.underlying t = some (.slice e)) (hi : P.info? e = some i) (hz : i.zero = some z)
    (kl kc : IntKind) (n c : Nat) (hnc : n ≤ c) (hbytes : i.bytes * c ≤ 281474976710656) (h63 : c ≤ 9223372036854775807) (w : World) :
    (Instr.makeSlice t (.int kl (n : Int)) (.int kc (c : Int))).run P w = .ok (.slice (some ⟨w.heap.size, 0, none⟩) n c) (w.alloc (.cells (madeCells z.cells (c * i.size)) e)) := by
  have hb : (i.bytes : Int) * (c : Int) ≤ 281474976710656 := by
    have h : ((i.bytes * c : Nat) : Int) ≤ 281474976710656 := by omega
    rwa [Int.natCast_mul] at h
  have hr := run_make (P := P) w t e i z ht hi hz kl kc n c (by omega) (by omega) hb (by omega)
  simp only [Int.toNat_natCast] at hr
  exact hr
theorem grown_of_below {a w : World} (h : Below a.heap.size a w) (row : Option Nat) : a.grownBy w row := ⟨h.os, h.tape, h.output, h.size, fun i hi _ => h.block i hi⟩
theorem only_trans {a b c : World} {row : Option Nat} (h : a.grownBy b row) (k : b.grownBy c row) : a.grownBy c row :=
  ⟨k.os.trans h.os, k.tape.trans h.tape, k.output.trans h.output, Nat.le_trans h.size k.size, fun i hi hne => (k.block i (Nat.lt_of_lt_of_le hi h.size) hne).trans (h.block i hi hne)⟩
theorem only_below {a b c : World} {row : Option Nat} (h : a.grownBy b row) (k : Below b.heap.size b c) : a.grownBy c row := only_trans h (grown_of_below k row)
theorem own_below {w w' : World} {base : Nat} {e : TypeId} {size : Nat} {v : Value} {n : Nat} {xs : List Value} (h : w.ownsRow base e size v n xs) (hb : Below w.heap.size w w') : w'.ownsRow base e size v n xs :=
  h.kept (grown_of_below hb none) (by cases hv : v.ownBlock <;> simp)
theorem only_below_B {a b c : World} {g : Nat} (h : Below a.heap.size a b) (k : b.grownBy c (some g)) (hg : a.heap.size ≤ g := by first | omega | simp) : Below a.heap.size a c :=
  ⟨k.os.trans h.os, k.tape.trans h.tape, k.output.trans h.output, Nat.le_trans h.size k.size, fun i hi => (k.block i (Nat.lt_of_lt_of_le hi h.size) (by intro e; injection e; omega)).trans (h.block i hi)⟩
structure Upper (B : Nat) (a w : World) : Prop where
  size : a.heap.size ≤ w.heap.size
  block : ∀ g, B ≤ g → g < a.heap.size → w.heap[g]? = a.heap[g]?
theorem Upper.refl (B : Nat) (a : World) : Upper B a a := ⟨Nat.le_refl _, fun _ _ _ => rfl⟩
theorem Upper.setCell {B : Nat} {a w : World} (h : Upper B a w) {p : Addr} (hp : p.block < B) (u : Value) : Upper B a (w.setCell p u) :=
  ⟨by simpa [World.setCell] using h.size, fun g hg hl => (Below.heap_setCell _ _ _ _ (by omega)).trans (h.block g hg hl)⟩
theorem Upper.alloc {B : Nat} {a w : World} (h : Upper B a w) (o : Obj) : Upper B a (w.alloc o) :=
  ⟨by have := h.size; simp; omega, fun g hg hl => (Below.heap_alloc _ _ _ (by have := h.size; omega)).trans (h.block g hg hl)⟩
theorem Upper.below {B : Nat} {a w w' : World} (h : Upper B a w) (hb : Below w.heap.size w w') : Upper B a w' :=
  ⟨Nat.le_trans h.size hb.size, fun g hg hl => (hb.block g (by have := h.size; omega)).trans (h.block g hg hl)⟩
theorem bel {B : Nat} {a w : World} (h : Below B a w := by repeat (first | (with_reducible exact Below.refl _ _) | (with_reducible assumption) | (with_reducible exact (‹_ ∧ _ ∧ Below _ _ _›).2.2) | (with_reducible refine below_drewN ?_ _) | (with_reducible refine Below.drew ?_) | ((with_reducible refine Below.alloc ?_ ?hsd _); (case hsd => (first | exact Nat.le_refl _ | (simp; done) | omega | (simp; omega) | exact (‹_ ∧ _ ∧ Below _ _ _›).2.2.size))) | ((with_reducible refine Below.setCell ?_ ?hsd _); (case hsd => (first | exact Nat.le_refl _ | (simp; done) | omega | (simp; omega) | exact (‹_ ∧ _ ∧ Below _ _ _›).2.2.size))) | ((with_reducible refine Below.trans ?_ (Below.mono (by with_reducible assumption) ?hsd)); (case hsd => (first | exact Nat.le_refl _ | (simp; done) | omega | (simp; omega) | exact (‹_ ∧ _ ∧ Below _ _ _›).2.2.size))) | exact Below.refl _ _ | assumption | exact (‹_ ∧ _ ∧ Below _ _ _›).2.2 | refine below_drewN ?_ _ | refine Below.drew ?_ | refine Below.alloc ?_ (by first | exact Nat.le_refl _ | (simp; done) | omega | (simp; omega) | exact (‹_ ∧ _ ∧ Below _ _ _›).2.2.size) _ | refine Below.setCell ?_ (by first | exact Nat.le_refl _ | (simp; done) | omega | (simp; omega) | exact (‹_ ∧ _ ∧ Below _ _ _›).2.2.size) _ | refine Below.trans ?_ (Below.mono (by assumption) (by first | exact Nat.le_refl _ | (simp; done) | omega | (simp; omega) | exact (‹_ ∧ _ ∧ Below _ _ _›).2.2.size)))) : Below B a w := h
theorem upr {B : Nat} {a w : World} (h : Upper B a w := by repeat (first | (with_reducible exact Upper.refl _ _) | (with_reducible refine Upper.drew ?_) | (with_reducible refine Upper.drewN ?_ _) | ((with_reducible refine Upper.setCell ?_ ?hsd _); (case hsd => (first | exact Nat.le_refl _ | (simp; done) | omega | (simp; omega) | exact (‹_ ∧ _ ∧ Below _ _ _›).2.2.size))) | (with_reducible refine Upper.alloc ?_ _) | (with_reducible refine Upper.below ?_ (by with_reducible assumption)) | exact Upper.refl _ _ | refine Upper.drew ?_ | refine Upper.drewN ?_ _ | refine Upper.setCell ?_ (by first | exact Nat.le_refl _ | (simp; done) | omega | (simp; omega) | exact (‹_ ∧ _ ∧ Below _ _ _›).2.2.size) _ | refine Upper.alloc ?_ _ | refine Upper.below ?_ (by assumption))) : Upper B a w := h
theorem own_up {w w' : World} {base base' : Nat} {e : TypeId} {size : Nat} {v : Value} {n : Nat} {xs : List Value} (h : w.ownsRow base e size v n xs) (hu : Upper base w w') (hb : base' ≤ base) : w'.ownsRow base' e size v n xs := by
  refine ⟨h.1, ?_⟩
  rcases h.2 with hn | ⟨g, cap, cur, rfl, hbg, hgg, rest⟩
  · exact .inl hn
  · exact .inr ⟨g, cap, cur, rfl, Nat.le_trans hb hbg, (hu.block g hbg (Array.getElem?_eq_some_iff.1 hgg).1).trans hgg, rest⟩
theorem grown_below {B : Nat} {w w' : World} {row : Option Nat} (hg : w.grownBy w' row) (hr : ∀ k, row = some k → B ≤ k) (hB : B ≤ w.heap.size) : Below B w w' := (Below.refl B w).grown hg hB hr
theorem bcellB {B : Nat} {W w1 : World} (hb : Below B W w1) : (∀ b o, b < B → w1.cell? ⟨b, o, none⟩ = W.cell? ⟨b, o, none⟩) ∧ (∀ b o, b < B → w1.frozen? ⟨b, o, none⟩ = W.frozen? ⟨b, o, none⟩) :=
  ⟨fun b o h => hb.cell (p := ⟨b, o, none⟩) h, fun b o h => hb.frozen (p := ⟨b, o, none⟩) h⟩
theorem own_slice {w : World} {base : Nat} {e : TypeId} {size : Nat} {v : Value} {n : Nat} {xs : List Value} (h : w.ownsRow base e size v n xs) : ∃ A c, v = .slice A n c := by
  rcases h.2 with ⟨rfl, h0⟩ | ⟨g, cap, cur, rfl, _⟩
  · exact ⟨none, 0, by rw [h0]⟩
  · exact ⟨_, _, rfl⟩
section
variable {P : Program} (w : World)
theorem step_append_sl {ops : Array Oper} {o : Oper} {a : Act} {K : Act → World → Prop} {Q : Exit → Act → World → Prop} {E : Prop} (hgd : o.guard = none) (s x : Operand) (t : TypeId)
    (ho : o.op = .call { callee := .builtin .append, args := #[s, x], argTypes := #[t, t] })
    (base : Nat) (e : TypeId) (i : TypeInfo) (z : Value) (size bytes : Nat) (ht : P.underlying t = some (.slice e)) (hi : P.info? e = some i) (hz : i.zero = some z)
    (hsize : i.size = size) (hby : i.bytes = bytes) (hzs : z.cells.size = size) (hsz : 0 < size)
    (v : Value) (n : Nat) (xs : List Value) (hs : a.eval s = v) (hown : w.ownsRow base e size v n xs)
    (B : Nat) (A : Option Addr) (m c : Nat) (news : List Value) (hx : a.eval x = .slice A m c) (hr : Reads w B size A m news) (h1 : ∀ u ∈ news, u.oneCell' = true)
    (h63 : n + m ≤ maxLen) (hbytes : (n + m) * bytes ≤ 140737488355328) (hbase : base ≤ w.heap.size)
    (h : ∀ A' c' w', w'.ownsRow base e size (.slice A' (n + m) c') (n + m) (xs ++ news) → Below base w w' → K (a.put o.dst (.slice A' (n + m) c')) w') :
    if Region.wanted o (yielded ops a.tmps) = true then Oper.wp P o a w K Q else E := by
  refine step_append_any w hgd s x t ho base e i z size bytes ht hi hz hsize hby hzs hsz v n xs hs hown B A m c news hx hr h1 h63 hbytes hbase ?_
  intro v' w' h2 h3 h4
  obtain ⟨A', c', rfl⟩ := own_slice h2
  exact h A' c' w' h2 (grown_below h3 (fun k hk => (hown.lt k hk).1) hbase)
end
theorem bcell {W w1 : World} (hb : Below W.heap.size W w1) : (∀ b o, b < W.heap.size → w1.cell? ⟨b, o, none⟩ = W.cell? ⟨b, o, none⟩) ∧ (∀ b o, b < W.heap.size → w1.frozen? ⟨b, o, none⟩ = W.frozen? ⟨b, o, none⟩) :=
  ⟨fun b o h => hb.cell (p := ⟨b, o, none⟩) h, fun b o h => hb.frozen (p := ⟨b, o, none⟩) h⟩
theorem keep_of {B : Nat} {a W : World} (h : Below B a W) : (∀ b o, b < B → W.cell? ⟨b, o, none⟩ = a.cell? ⟨b, o, none⟩) ∧ (∀ b o, b < B → W.frozen? ⟨b, o, none⟩ = a.frozen? ⟨b, o, none⟩) ∧ Below B a W :=
  ⟨fun b o hb => h.cell (p := ⟨b, o, none⟩) hb, fun b o hb => h.frozen (p := ⟨b, o, none⟩) hb, h⟩
end Go.Proofs.YtdddglihomchfaaGreat
namespace Go.Proofs.YtdddglihomchfaaGreat
open Go.ChangeShapes Go.WideShapes Go.ChangeAt Go.RowKit
structure Strs (w : World) (B : Nat) (A : Option Addr) (n : Nat) (ss : List ByteArray) : Prop where
  rd : Reads w B 1 A n (ss.map Value.string)
  nb : n ≤ 16777216
  sb : ∀ s ∈ ss, s.size ≤ 16777216
section
variable {w w' : World} {B B' n : Nat} {A : Option Addr} {ss : List ByteArray}
theorem Strs.len (h : Strs w B A n ss) : ss.length = n := by have := h.rd.1; simpa using this
theorem Strs.at_ {k : Nat} (h : Strs w B A n ss) (hk : k < n) : ∃ (hk' : k < ss.length) (ad : Addr), A = some ad ∧ ad.block < B ∧ w.cell? (ad.add k) = some (.string ss[k]) ∧ ss[k].size ≤ 16777216 := by
  obtain ⟨ad, u, rfl, hb, hx, hc⟩ := h.rd.at_ hk
  have hl := h.len
  have hk' : k < ss.length := by omega
  refine ⟨hk', ad, rfl, hb, ?_, h.sb _ (List.getElem_mem hk')⟩
  rw [hc]
  rw [List.getElem?_map, List.getElem?_eq_getElem hk'] at hx
  simpa using hx.symm
theorem Strs.keep (h : Strs w B A n ss) (hk : ∀ p : Addr, p.block < B → w'.cell? p = w.cell? p) : Strs w' B A n ss := ⟨h.rd.keep hk, h.nb, h.sb⟩
theorem Strs.more (h : Strs w B A n ss) (hB : B ≤ B') : Strs w B' A n ss := ⟨h.rd.more hB, h.nb, h.sb⟩
theorem Strs.below (h : Strs w B A n ss) (hb : Below B w w') : Strs w' B A n ss := ⟨h.rd.below hb, h.nb, h.sb⟩
theorem Strs.drewN (h : Strs w B A n ss) (k : Nat) : Strs (w.drewN k) B A n ss := ⟨h.rd.drewN k, h.nb, h.sb⟩
theorem Strs.alloc (h : Strs w B A n ss) (hB : B ≤ w.heap.size) (o : Obj) : Strs (w.alloc o) B A n ss := ⟨h.rd.alloc hB o, h.nb, h.sb⟩
end
def stripOf (d f : Int) (s : ByteArray) : Bool := (downOf s.data.toList == d) && (forwardOf s.data.toList == f)
def cardOk (d f : Int) (ss : List ByteArray) : Bool := (isStepsB d && isStepsB f) && (inB ss.length 1 10 && ss.all (stripOf d f))
theorem cardOk_no {d f : Int} {ss : List ByteArray} {k : Nat} (hk : k < ss.length) (h : stripOf d f ss[k] = false) : cardOk d f ss = false := by
  have : ss.all (stripOf d f) = false := by
    rw [List.all_eq_false]; exact ⟨ss[k], List.getElem_mem hk, by simp [h]⟩
  unfold cardOk; rw [this]; simp
set_option maxHeartbeats 400000 in
theorem i_CardOk (d f : Int) (A : Option Addr) (n c : Nat) (ss : List ByteArray) (w : World) (hS : Strs w w.heap.size A n ss) :
    Calls Tryz.prog 126 #[.agg #[.int .i64 d, .int .i64 f, .slice A n c]] w fun e w' => e = .returned (.bool (cardOk d f ss)) ∧ Below w.heap.size w w' := by
  have hn := hS.nb
  go_enter Tryz.func126, Tryz.ntmps126
  go_wp2
  go_loopw [4, 8] (fun s i wr => ∃ k m : Nat, k ≤ n ∧ i = .int .i64 k ∧ wr = (w.alloc (.cells #[.int .i64 d, .int .i64 f, .slice A n c] 34)).drewN m ∧ (ss.take k).all (stripOf d f) = true) (fun _ i _ => n - (intOf i).toNat)
  case atStart => exact ⟨0, 0, Nat.zero_le _, rfl, rfl, by simp⟩
  case round =>
    obtain ⟨k, m, hk, rfl, rfl, hall⟩ := hrel
    by_cases hlt : k < n
    · obtain ⟨hk', ad, rfl, hab, hc, hsb⟩ := hS.at_ hlt
      have hab' : ad.block ≠ w.heap.size := by omega
      have hcc : ∀ (o : Obj), (w.alloc o).cell? (ad.add k) = some (.string ss[k]) := fun o => by
        rw [World.cell?_alloc_lt _ _ _ (by rw [block_of_add]; exact hab)]; exact hc
      have hq1 : ∀ W : World, Calls Tryz.prog 164 #[.string ss[k]] W fun e w' => e = .returned (.int .i64 (downOf ss[k].data.toList)) ∧ W = w' := fun W => i_DownOf _ _ (by unfold maxLen; omega)
      have hq2 : ∀ W : World, Calls Tryz.prog 165 #[.string ss[k]] W fun e w' => e = .returned (.int .i64 (forwardOf ss[k].data.toList)) ∧ W = w' := fun W => i_ForwardOf _ _ (by unfold maxLen; omega)
      have HQ1 := hide hq1
      have HQ2 := hide hq2
      clear hq1 hq2
      have hts : ss.take (k + 1) = ss.take k ++ [ss[k]] := by rw [List.take_succ_eq_append_getElem hk']
      have HT := Lib.hid hts
      have HA := Lib.hid hall
      clear hts hall
      cases h1 : (downOf ss[k].data.toList != d)
      · cases h2 : (forwardOf ss[k].data.toList != f)
        · go_wp2
          go_quiet (((first | (go_at_call 164; first | exact quiet_left (unhide HQ1 _) | exact quiet_add_left (unhide HQ1 _)) | (go_at_call 165; first | exact quiet_left (unhide HQ2 _) | exact quiet_add_left (unhide HQ2 _)))))
          go_wp2
          go_roundw
          case rel =>
            refine ⟨k + 1, _, by omega, by go_num, rfl, ?_⟩
            rw [HT.out, List.all_append, HA.out]
            simp at h1 h2
            simp [stripOf, h1, h2]
          case measure => simp [intOf]; omega
        · have hfin : cardOk d f ss = false := cardOk_no hk' (by simp at h2; simp [stripOf, h2])
          have HF := Lib.hid hfin
          clear hfin
          go_wp2
          go_quiet (((first | (go_at_call 164; first | exact quiet_left (unhide HQ1 _) | exact quiet_add_left (unhide HQ1 _)) | (go_at_call 165; first | exact quiet_left (unhide HQ2 _) | exact quiet_add_left (unhide HQ2 _)))))
          go_wp2
          go_ret
          exact ⟨ret_bool HF.out.symm, bel⟩
      · have hfin : cardOk d f ss = false := cardOk_no hk' (by simp at h1; simp [stripOf, h1])
        have HF := Lib.hid hfin
        clear hfin
        go_wp2
        go_quiet (((first | (go_at_call 164; first | exact quiet_left (unhide HQ1 _) | exact quiet_add_left (unhide HQ1 _)) | (go_at_call 165; first | exact quiet_left (unhide HQ2 _) | exact quiet_add_left (unhide HQ2 _)))))
        go_wp2
        go_ret
        exact ⟨ret_bool HF.out.symm, bel⟩
    · have hk2 : k = n := by omega
      have hl := hS.len
      have ht : ss.take k = ss := List.take_of_length_le (by omega)
      rw [ht] at hall
      have HA := Lib.hid hall
      have HL := Lib.hid hl
      clear hall ht hl
      subst hk2
      cases h1 : isStepsB d <;> cases h2 : isStepsB f <;> cases h3 : inB k 1 10 <;>
      · go_wp2_with (first | (go_at_call 166; refine (i_isSteps _ _).mono ?_; rintro e w' ⟨rfl, rfl⟩) | (go_at_call 72; refine (i_within _ _ _ _).mono ?_; rintro e w' ⟨rfl, rfl⟩))
        go_ret
        exact ⟨ret_bool (by unfold cardOk; rw [HA.out, HL.out, h1, h2, h3]; rfl), bel⟩
set_option maxHeartbeats 400000 in
theorem s_CardOk (d f : Int) (A : Option Addr) (n c : Nat) (ss : List ByteArray) (w : World) (hS : Strs w w.heap.size A n ss) :
    Calls Tryz.prog 118 #[.agg #[.int .i64 d, .int .i64 f, .slice A n c]] w fun e w' => e = .returned (.bool (cardOk d f ss)) ∧ Below w.heap.size w w' := by
  have hn := hS.nb
  have hl := hS.len
  cases h1 : (isStepsB d && isStepsB f)
  · have HF : Hid (cardOk d f ss = false) := by unfold Hid cardOk; rw [h1]; rfl
    go_enter Tryz.func118, Tryz.ntmps118
    go_wp2_with (first | (go_at_call 157; refine (s_l02Frame _ _ _).mono ?_; rintro e w' ⟨rfl, rfl⟩) | (go_at_call 65; refine (s_l01In _ _ _ _).mono ?_; rintro e w' ⟨rfl, rfl⟩))
    go_ret
    exact ⟨ret_bool HF.out.symm, bel⟩
  · cases h2 : inB n 1 10
    · have HF : Hid (cardOk d f ss = false) := by unfold Hid cardOk; rw [h1, hl, h2]; rfl
      have HL := Lib.hid hl
      clear hl
      go_enter Tryz.func118, Tryz.ntmps118
      go_wp2_with (first | (go_at_call 157; refine (s_l02Frame _ _ _).mono ?_; rintro e w' ⟨rfl, rfl⟩) | (go_at_call 65; refine (s_l01In _ _ _ _).mono ?_; rintro e w' ⟨rfl, rfl⟩))
      go_ret
      exact ⟨ret_bool HF.out.symm, bel⟩
    · have HL := Lib.hid hl
      clear hl
      have h1' := Lib.hid h1
      have h2' := Lib.hid h2
      go_enter Tryz.func118, Tryz.ntmps118
      go_wp2_with (first | (go_at_call 157; refine (s_l02Frame _ _ _).mono ?_; rintro e w' ⟨rfl, rfl⟩) | (go_at_call 65; refine (s_l01In _ _ _ _).mono ?_; rintro e w' ⟨rfl, rfl⟩))
      go_loopw [3] (fun i wr => ∃ k m : Nat, k ≤ n ∧ i = .int .i64 k ∧ wr = (w.alloc (.cells #[.int .i64 d, .int .i64 f, .slice A n c] 34)).drewN m ∧ (ss.take k).all (stripOf d f) = true) (fun i _ => n - (intOf i).toNat)
      case atStart => exact ⟨0, 0, Nat.zero_le _, rfl, rfl, by simp⟩
      case round =>
        obtain ⟨k, m, hk, rfl, rfl, hall⟩ := hrel
        by_cases hlt : k < n
        · obtain ⟨hk', ad, rfl, hab, hc, hsb⟩ := hS.at_ hlt
          have hab' : ad.block ≠ w.heap.size := by omega
          have hcc : ∀ (o : Obj), (w.alloc o).cell? (ad.add k) = some (.string ss[k]) := fun o => by
            rw [World.cell?_alloc_lt _ _ _ (by rw [block_of_add]; exact hab)]; exact hc
          have hq1 : ∀ W : World, Calls Tryz.prog 158 #[.string ss[k]] W fun e w' => e = .returned (.int .i64 (downOf ss[k].data.toList)) ∧ W = w' := fun W => s_DownOf _ _ (by unfold maxLen; omega)
          have hq2 : ∀ W : World, Calls Tryz.prog 159 #[.string ss[k]] W fun e w' => e = .returned (.int .i64 (forwardOf ss[k].data.toList)) ∧ W = w' := fun W => s_ForwardOf _ _ (by unfold maxLen; omega)
          have HQ1 := hide hq1
          have HQ2 := hide hq2
          clear hq1 hq2
          have hts : ss.take (k + 1) = ss.take k ++ [ss[k]] := by rw [List.take_succ_eq_append_getElem hk']
          have HT := Lib.hid hts
          have HA := Lib.hid hall
          clear hts hall
          cases h3 : (downOf ss[k].data.toList != d)
          · cases h4 : (forwardOf ss[k].data.toList != f)
            · go_wp2
              go_quiet (((first | (go_at_call 158; first | exact quiet_left (unhide HQ1 _) | exact quiet_add_left (unhide HQ1 _)) | (go_at_call 159; first | exact quiet_left (unhide HQ2 _) | exact quiet_add_left (unhide HQ2 _)))))
              go_wp2
              go_roundw
              case rel =>
                refine ⟨k + 1, _, by omega, by go_num, rfl, ?_⟩
                rw [HT.out, List.all_append, HA.out]
                simp at h3 h4
                simp [stripOf, h3, h4]
              case measure => simp [intOf]; omega
            · have hfin : cardOk d f ss = false := cardOk_no hk' (by simp at h4; simp [stripOf, h4])
              have HF := Lib.hid hfin
              clear hfin
              go_wp2
              go_quiet (((first | (go_at_call 158; first | exact quiet_left (unhide HQ1 _) | exact quiet_add_left (unhide HQ1 _)) | (go_at_call 159; first | exact quiet_left (unhide HQ2 _) | exact quiet_add_left (unhide HQ2 _)))))
              go_wp2
              go_ret
              exact ⟨ret_bool HF.out.symm, bel⟩
          · have hfin : cardOk d f ss = false := cardOk_no hk' (by simp at h3; simp [stripOf, h3])
            have HF := Lib.hid hfin
            clear hfin
            go_wp2
            go_quiet (((first | (go_at_call 158; first | exact quiet_left (unhide HQ1 _) | exact quiet_add_left (unhide HQ1 _)) | (go_at_call 159; first | exact quiet_left (unhide HQ2 _) | exact quiet_add_left (unhide HQ2 _)))))
            go_wp2
            go_ret
            exact ⟨ret_bool HF.out.symm, bel⟩
        · have hk2 : k = n := by omega
          have ht : ss.take k = ss := List.take_of_length_le (by have := HL.out; omega)
          rw [ht] at hall
          have HF : Hid (cardOk d f ss = true) := by unfold Hid cardOk; rw [h1'.out, HL.out, h2'.out, hall]; rfl
          clear hall ht
          subst hk2
          go_wp2
          go_ret
          exact ⟨ret_bool HF.out.symm, bel⟩
end Go.Proofs.YtdddglihomchfaaGreat
namespace Go.Proofs.YtdddglihomchfaaGreat
open Go.ChangeShapes Go.WideShapes Go.ChangeAt Go.RowKit
set_option linter.unusedVariables false
set_option maxRecDepth 10000
def digs : Nat → Nat → List UInt8 → List UInt8
  | 0, _, acc => acc
  | f + 1, k, acc => if k = 0 then acc else digs f (k / 10) ((48 + k % 10).toUInt8 :: acc)
theorem digs_zero (f : Nat) (acc : List UInt8) : digs f 0 acc = acc := by cases f <;> simp [digs]
def markL (k : Int) : List UInt8 := if k ≤ 0 then [109, 48] else 109 :: digs k.toNat k.toNat []
def markT (k : Int) : ByteArray := ⟨(markL k).toArray⟩
theorem size_one (x : UInt8) : (⟨#[x]⟩ : ByteArray).size = 1 := rfl
theorem conv_one (x : Int) (W : World) (h0 : 0 ≤ x) (h1 : x ≤ 255) :
    (convert 172 9 (.slice (some ⟨W.heap.size, 0, none⟩) 1 1)).run Tryz.prog (W.alloc (.cells #[.int .u8 x] 5)) = .ok (.string ⟨#[x.toNat.toUInt8]⟩) (W.alloc (.cells #[.int .u8 x] 5)) := by
  have h := run_convert_bytes_back (P := Tryz.prog) (W.alloc (.cells #[.int .u8 x] 5)) 172 9 5 ⟨W.heap.size, 0, none⟩ 1 [x.toNat.toUInt8] Tryz.underlying172 Tryz.underlying5 Tryz.underlying9
    (fun j hj => by
      have : j = 0 := by simp at hj; omega
      subst this
      show (W.alloc (.cells #[.int .u8 x] 5)).cell? ⟨W.heap.size, 0, none⟩ = _
      rw [World.cell?_alloc_mark]
      obtain ⟨X, rfl⟩ := Int.eq_ofNat_of_zero_le h0
      have hX : X < 256 := by omega
      simp [Nat.mod_eq_of_lt hX])
  exact h
set_option maxHeartbeats 400000 in
theorem l_markText (k : Int) (w : World) (hk0 : 0 ≤ k) (hk1 : k ≤ 1152921504606846976) :
    Calls Tryz.prog 137 #[.int .i64 k] w fun e w' => e = .returned (.string (markT k)) ∧ Below w.heap.size w w' := by
  by_cases hz : k ≤ 0
  · have HF : Hid (markT k = ⟨#[109, 48]⟩) := by unfold Hid markT markL; rw [if_pos hz]
    go_enter Tryz.func137, Tryz.ntmps137
    go_wp2
    go_ret
    exact ⟨ret_str HF.out.symm, Below.refl _ _⟩
  · obtain ⟨K, rfl⟩ := Int.eq_ofNat_of_zero_le hk0
    have HF : Hid (markT K = ⟨(109 :: digs K K []).toArray⟩) := by unfold Hid markT markL; rw [if_neg hz]; simp
    go_enter Tryz.func137, Tryz.ntmps137
    go_wp2
    go_loopw [0, 3] (fun n o wr => ∃ (q f : Nat) (acc : ByteArray), n = .int .i64 q ∧ acc.size + q ≤ K ∧ q ≤ f ∧ o = .string acc ∧ Hid (digs f q acc.data.toList = digs K K []) ∧ Below w.heap.size w wr) (fun n _ _ => (intOf n).toNat)
    case atStart => exact ⟨K, K, _, rfl, by show 0 + K ≤ K; omega, Nat.le_refl _, rfl, by unfold Hid; rfl, Below.refl _ _⟩
    case round =>
      obtain ⟨q, f, acc, rfl, hq, hf, rfl, HD, hb⟩ := hrel
      have hbs := hb.size
      by_cases h0 : 0 < q
      · have hcv := conv_one (48 + (q : Int) % 10) wr (by omega) (by omega)
        go_wp2
        go_roundw
        case rel =>
          obtain ⟨f', rfl⟩ : ∃ f', f = f' + 1 := ⟨f - 1, by omega⟩
          refine ⟨q / 10, f', _, by go_num, by rw [ByteArray.size_append, size_one]; omega, by omega, rfl, ?_, bel⟩
          have h := HD.out
          simp only [digs] at h
          rw [if_neg (by omega)] at h
          unfold Hid
          rw [← h]
          congr 1
          simp
        case measure => simp [intOf]; omega
      · have hq0 : q = 0 := by omega
        subst hq0
        have HE : Hid (markT K = ⟨(109 :: acc.data.toList).toArray⟩) := by
          unfold Hid; rw [HF.out, ← HD.out, digs_zero]
        go_wp2
        go_ret
        exact ⟨ret_str (by rw [HE.out]; apply ba_ext; simp [ByteArray.data_append]), hb⟩
theorem own_cell {w : World} {base : Nat} {e : TypeId} {g n c j : Nat} {xs : List Value} (h : w.ownsRow base e 1 (.slice (some ⟨g, 0, none⟩) n c) n xs) (hj : j < n) : ∃ u, w.cell? ⟨g, j, none⟩ = some u := by
  have hl := h.1
  rw [h.cellAt j (by omega), List.getElem?_eq_getElem (by omega)]
  exact ⟨_, rfl⟩
def marks (k : Int) (n : Nat) : List Value := (List.range n).map fun i => Value.string (markT (k + (i : Nat)))
theorem marks_len (k : Int) (n : Nat) : (marks k n).length = n := by simp [marks]
theorem marks_succ (k : Int) (n : Nat) : marks k (n + 1) = marks k n ++ [.string (markT (k + n))] := by
  simp [marks, List.range_succ]
theorem marks_step (k : Int) (i : Nat) (xs : List Value) (hi : i < xs.length) : (marks k i ++ xs.drop i).set i (.string (markT (k + i))) = marks k (i + 1) ++ xs.drop (i + 1) := by
  rw [marks_succ, List.set_append, if_neg (by simp [marks_len]), marks_len, Nat.sub_self, List.drop_eq_getElem_cons hi, List.set_cons_zero, List.append_assoc]
  rfl
def Marked (base : Nat) (v : Value) (n : Nat) (k : Int) (w : World) (e : Ending) (w' : World) : Prop :=
  e = .returned (.int .i64 (k + n)) ∧ w'.ownsRow base 9 1 v n (marks k n) ∧ w.grownBy w' v.ownBlock
set_option maxHeartbeats 400000 in
theorem l_markStringS (base : Nat) (A : Option Addr) (n c : Nat) (xs : List Value) (k : Int) (w : World) (hO : w.ownsRow base 9 1 (.slice A n c) n xs) (hk0 : 0 ≤ k) (hk1 : k ≤ 4503599627370496) (hn : n ≤ 16777216) :
    Calls Tryz.prog 81 #[.slice A n c, .int .i64 k] w (Marked base (.slice A n c) n k w) := by
  go_enter Tryz.func81, Tryz.ntmps81
  go_wp2
  go_loopw [1, 5] (fun q i wr => ∃ j : Nat, j ≤ n ∧ i = .int .i64 j ∧ q = .int .i64 (k + j) ∧ wr.ownsRow base 9 1 (.slice A n c) n (marks k j ++ xs.drop j) ∧ w.grownBy wr (Value.slice A n c).ownBlock) (fun _ i _ => n - (intOf i).toNat)
  case atStart => exact ⟨0, Nat.zero_le _, rfl, by go_num, by simpa [marks] using hO, World.grownBy.refl w _⟩
  case round =>
    obtain ⟨j, hj, rfl, rfl, hown, hg⟩ := hrel
    by_cases hlt : j < n
    · obtain ⟨g, cap, hv, hbg, hglt⟩ := hown.form (by omega)
      have hA : A = some ⟨g, 0, none⟩ := by injection hv
      subst hA
      clear hv
      have hlen : (marks k j ++ xs.drop j).length = n := by have := hown.1; omega
      have hxl : xs.length = n := by have := hO.1; omega
      have HX := Lib.hid hxl
      have HL := Lib.hid hlen
      clear hlen hxl
      go_wp2_with (go_at_call 137; refine (l_markText _ _ (by omega) (by omega)).mono ?_; rintro e w1 ⟨rfl, hb1⟩; have ho1 := own_below hown hb1; obtain ⟨u1, hc1⟩ := own_cell ho1 (j := j) (by omega); have hf1 := ho1.frozenAt j)
      go_roundw
      case rel =>
        have hst := ho1.stored j (.string (markT (k + j)))
        refine ⟨j + 1, by omega, by go_num, by go_num, ?_, ?_⟩
        · rw [← marks_step k j xs (by have := HX.out; omega)]; exact hst.1
        · exact only_trans (only_below hg hb1) hst.2
      case measure => simp [intOf]; omega
    · have hjn : j = n := by omega
      subst hjn
      have hxl : xs.length = j := by have := hO.1; omega
      have hd : xs.drop j = [] := List.drop_eq_nil_of_le (by omega)
      rw [hd, List.append_nil] at hown
      clear hd hxl
      go_wp2
      go_ret
      exact ⟨rfl, hown, hg⟩
set_option maxHeartbeats 400000 in
theorem l_markCard (base : Nat) (d f : Int) (A : Option Addr) (n c : Nat) (xs : List Value) (k : Int) (w : World) (hO : w.ownsRow base 9 1 (.slice A n c) n xs) (hk0 : 0 ≤ k) (hk1 : k ≤ 4503599627370496) (hn : n ≤ 16777216) :
    Calls Tryz.prog 25 #[.agg #[.int .i64 d, .int .i64 f, .slice A n c], .int .i64 k] w (Marked base (.slice A n c) n k w) := by
  go_enter Tryz.func25, Tryz.ntmps25
  go_wp2_with (go_at_call 81; refine (l_markStringS base _ _ _ _ _ _ (hO.alloc _) hk0 hk1 hn).mono ?_; rintro e w1 ⟨rfl, ho1, hg1⟩)
  go_ret
  exact ⟨rfl, ho1, only_trans (World.grownBy_alloc w _ _) hg1⟩
set_option maxHeartbeats 400000 in
theorem l_heldStringS (B : Nat) (A : Option Addr) (n c : Nat) (k : Int) (w : World) (hR : Reads w B 1 A n (marks k n)) (hB : B ≤ w.heap.size) (hk0 : 0 ≤ k) (hk1 : k ≤ 4503599627370496) (hn : n ≤ 16777216) :
    Calls Tryz.prog 141 #[.slice A n c, .int .i64 k] w fun e w' => e = .returned (.int .i64 (k + n)) ∧ Below w.heap.size w w' := by
  go_enter Tryz.func141, Tryz.ntmps141
  go_wp2
  go_loopw [1, 5] (fun q i wr => ∃ j : Nat, j ≤ n ∧ i = .int .i64 j ∧ q = .int .i64 (k + j) ∧ Below w.heap.size w wr) (fun _ i _ => n - (intOf i).toNat)
  case atStart => exact ⟨0, Nat.zero_le _, rfl, by go_num, Below.refl _ _⟩
  case round =>
    obtain ⟨j, hj, rfl, rfl, hb⟩ := hrel
    by_cases hlt : j < n
    · obtain ⟨ad, u, rfl, hab, hx, hc⟩ := hR.at_ hlt
      have hu : u = .string (markT (k + j)) := by
        simp [marks, hlt] at hx; exact hx.symm
      subst hu
      have HCB : Hid (∀ W : World, Below w.heap.size w W → W.cell? (ad.add j) = some (.string (markT (k + j)))) := by
        intro W hW; rw [hW.cell (by rw [block_of_add]; omega)]; exact hc
      have hc' := HCB.out wr hb
      have hbs := hb.size
      clear hx
      go_wp2
      go_region_held3 (fun w' => w'.cell? (ad.add j) = some (.string (markT (k + j))) ∧ Below w.heap.size w w') (exact ⟨HCB.out _ bel, bel⟩)
        (first | (go_at_call 137; refine (l_markText _ _ (by omega) (by omega)).mono ?_; rintro e w1 ⟨rfl, hb1⟩))
      all_goals
        go_wp2
        go_roundw
        case rel => exact ⟨j + 1, by omega, by go_num, by go_num, bel⟩
        case measure => simp [intOf]; omega
    · have hjn : j = n := by omega
      subst hjn
      go_wp2
      go_ret
      exact ⟨rfl, hb⟩
set_option maxHeartbeats 400000 in
theorem l_heldCard (d f : Int) (B : Nat) (A : Option Addr) (n c : Nat) (k : Int) (w : World) (hR : Reads w B 1 A n (marks k n)) (hB : B ≤ w.heap.size) (hk0 : 0 ≤ k) (hk1 : k ≤ 4503599627370496) (hn : n ≤ 16777216) :
    Calls Tryz.prog 139 #[.agg #[.int .i64 d, .int .i64 f, .slice A n c], .int .i64 k] w fun e w' => e = .returned (.int .i64 (k + n)) ∧ Below w.heap.size w w' := by
  go_enter Tryz.func139, Tryz.ntmps139
  go_wp2_with (go_at_call 141; refine (l_heldStringS B _ _ _ _ _ (hR.alloc hB _) (by simp; omega) hk0 hk1 hn).mono ?_; rintro e w1 ⟨rfl, hb1⟩)
  go_ret
  exact ⟨rfl, bel⟩
def eqSS (ss ts : List ByteArray) : Bool := decide (ss = ts)
theorem beq_toList_true {a b : ByteArray} (h : a = b) : (a.toList == b.toList) = true := by rw [h]; simp
theorem toList_inj {a b : ByteArray} (h : a.toList = b.toList) : a = b := by
  rw [ByteArray.toList_eq, ByteArray.toList_eq] at h
  exact ba_ext h
theorem beq_toList_false {a b : ByteArray} (h : a ≠ b) : (a.toList == b.toList) = false := by
  rw [beq_eq_false_iff_ne]; exact fun h' => h (toList_inj h')
set_option maxHeartbeats 400000 in
theorem l_eqStringS (B : Nat) (A1 A2 : Option Addr) (n1 n2 c1 c2 : Nat) (ss ts : List ByteArray) (w : World) (h1 : Strs w B A1 n1 ss) (h2 : Strs w B A2 n2 ts) (hB : B ≤ w.heap.size) :
    Calls Tryz.prog 80 #[.slice A1 n1 c1, .slice A2 n2 c2] w fun e w' => e = .returned (.bool (eqSS ss ts)) ∧ Below w.heap.size w w' := by
  have hl1 := h1.len
  have hl2 := h2.len
  have hn1 := h1.nb
  have hn2 := h2.nb
  by_cases hn : n1 = n2
  · subst hn
    have HL1 := Lib.hid hl1
    have HL2 := Lib.hid hl2
    clear hl1 hl2
    go_enter Tryz.func80, Tryz.ntmps80
    go_wp2
    go_loopw [5] (fun i wr => ∃ j m : Nat, j ≤ n1 ∧ i = .int .i64 j ∧ wr = w.drewN m ∧ Hid (ss.take j = ts.take j)) (fun i _ => n1 - (intOf i).toNat)
    case atStart => exact ⟨0, 0, Nat.zero_le _, rfl, rfl, by unfold Hid; simp⟩
    case round =>
      obtain ⟨j, m, hj, rfl, rfl, HT⟩ := hrel
      by_cases hlt : j < n1
      · obtain ⟨hk1, ad1, rfl, hab1, hc1, _⟩ := h1.at_ hlt
        obtain ⟨hk2, ad2, rfl, hab2, hc2, _⟩ := h2.at_ hlt
        by_cases he : ss[j] = ts[j]
        · have HE := Lib.hid he
          have hbq := beq_toList_true he
          clear he
          go_wp2
          go_quiet (fail)
          go_wp2
          go_roundw
          case rel =>
            refine ⟨j + 1, _, by omega, by go_num, rfl, ?_⟩
            unfold Hid
            rw [List.take_succ_eq_append_getElem hk1, List.take_succ_eq_append_getElem hk2, HT.out, HE.out]
          case measure => simp [intOf]; omega
        · have HF : Hid (eqSS ss ts = false) := by
            unfold Hid eqSS
            rw [decide_eq_false_iff_not]
            intro h; subst h; exact he rfl
          have hbq := beq_toList_false he
          clear he
          go_wp2
          go_quiet (fail)
          go_wp2
          go_ret
          exact ⟨ret_bool HF.out.symm, bel⟩
      · have HF : Hid (eqSS ss ts = true) := by
          unfold Hid eqSS
          rw [decide_eq_true_iff]
          have h := HT.out
          rw [List.take_of_length_le (by have := HL1.out; omega), List.take_of_length_le (by have := HL2.out; omega)] at h
          exact h
        go_wp2
        go_ret
        exact ⟨ret_bool HF.out.symm, bel⟩
  · have HF : Hid (eqSS ss ts = false) := by
      unfold Hid eqSS
      rw [decide_eq_false_iff_not]
      intro h; subst h; omega
    clear hl1 hl2
    go_enter Tryz.func80, Tryz.ntmps80
    go_wp2
    go_ret
    exact ⟨ret_bool HF.out.symm, bel⟩
set_option maxHeartbeats 400000 in
theorem l_eqCard (B : Nat) (d1 f1 d2 f2 : Int) (A1 A2 : Option Addr) (n1 n2 c1 c2 : Nat) (ss ts : List ByteArray) (w : World) (h1 : Strs w B A1 n1 ss) (h2 : Strs w B A2 n2 ts) (hB : B ≤ w.heap.size) :
    Calls Tryz.prog 24 #[.agg #[.int .i64 d1, .int .i64 f1, .slice A1 n1 c1], .agg #[.int .i64 d2, .int .i64 f2, .slice A2 n2 c2]] w fun e w' => e = .returned (.bool (((d1 == d2) && (f1 == f2)) && eqSS ss ts)) ∧ Below w.heap.size w w' := by
  cases he : eqSS ss ts <;> cases hd : (d1 == d2) <;> cases hf : (f1 == f2) <;>
  · have hd' : (d1 != d2) = !(d1 == d2) := rfl
    have hf' : (f1 != f2) = !(f1 == f2) := rfl
    rw [hd] at hd'
    rw [hf] at hf'
    simp only [Bool.not_true, Bool.not_false] at hd' hf'
    go_enter Tryz.func24, Tryz.ntmps24
    go_wp2_with (go_at_call 80; refine (l_eqStringS B _ _ _ _ _ _ _ _ _ ((h1.alloc hB _).alloc (by simp; omega) _) ((h2.alloc hB _).alloc (by simp; omega) _) (by simp; omega)).mono ?_; rintro e w1 ⟨rfl, hb1⟩)
    go_ret
    exact ⟨rfl, bel⟩
def tot : List ByteArray → Nat
  | [] => 0
  | s :: r => s.size + tot r
theorem tot_append (a b : List ByteArray) : tot (a ++ b) = tot a + tot b := by
  induction a with
  | nil => simp [tot]
  | cons x r ih => simp only [List.cons_append, tot, ih]; omega
theorem tot_mem {s : ByteArray} {l : List ByteArray} (h : s ∈ l) : s.size ≤ tot l := by
  induction l with
  | nil => cases h
  | cons x r ih =>
    rcases List.mem_cons.1 h with rfl | h
    · simp only [tot]; omega
    · have := ih h; simp only [tot]; omega
def szStrs (ss : List ByteArray) (left : Int) : Int := if left - ss.length - tot ss < 0 then -1 else left - ss.length - tot ss
set_option maxHeartbeats 400000 in
theorem l_szStringS (B : Nat) (A : Option Addr) (n c : Nat) (ss : List ByteArray) (left : Int) (w : World) (hR : Reads w B 1 A n (ss.map Value.string)) (hn : n ≤ 9223372036854775807) (hs : ∀ s ∈ ss, s.size ≤ 9223372036854775807) (h0 : -1 ≤ left) (h1 : left ≤ 1048576) :
    Calls Tryz.prog 76 #[.slice A n c, .int .i64 left] w fun e w' => e = .returned (.int .i64 (szStrs ss left)) ∧ w = w' := by
  have hl : ss.length = n := by have := hR.1; simpa using this
  by_cases hlt : left - n < 0
  · have HF : Hid (szStrs ss left = -1) := by unfold Hid szStrs; rw [if_pos (by omega)]
    have HL := Lib.hid hl
    clear hl
    go_enter Tryz.func76, Tryz.ntmps76
    go_wp2
    go_ret
    exact ⟨ret_int HF.out.symm, rfl⟩
  · have HL := Lib.hid hl
    clear hl
    go_enter Tryz.func76, Tryz.ntmps76
    go_wp2
    go_loop [1, 5] (fun q i => ∃ j : Nat, j ≤ n ∧ i = .int .i64 j ∧ q = .int .i64 (left - n - tot (ss.take j)) ∧ 0 ≤ left - n - tot (ss.take j)) (fun _ i => n - (intOf i).toNat)
    case atStart => exact ⟨0, Nat.zero_le _, rfl, by simp [tot], by simp [tot]; omega⟩
    case round =>
      obtain ⟨j, hj, rfl, rfl, hpos⟩ := hrel
      by_cases hjn : j < n
      · obtain ⟨ad, u, rfl, hab, hx, hc⟩ := hR.at_ hjn
        have hk1 : j < ss.length := by have := HL.out; omega
        have hu : u = .string ss[j] := by
          rw [List.getElem?_map, List.getElem?_eq_getElem hk1] at hx; simpa using hx.symm
        subst hu
        have hsz := hs _ (List.getElem_mem hk1)
        have htk : tot (ss.take (j + 1)) = tot (ss.take j) + ss[j].size := by
          rw [List.take_succ_eq_append_getElem hk1, tot_append]; simp [tot]
        have HT := Lib.hid htk
        clear htk hx
        by_cases hneg : left - n - tot (ss.take j) - ss[j].size < 0
        · have HF : Hid (szStrs ss left = -1) := by
            unfold Hid szStrs
            have h2 : tot ss = tot (ss.take (j + 1)) + tot (ss.drop (j + 1)) := by rw [← tot_append, List.take_append_drop]
            have h3 := HT.out
            have h4 := HL.out
            rw [if_pos (by omega)]
          go_wp2
          go_ret
          exact ⟨ret_int HF.out.symm, rfl⟩
        · go_wp2
          go_round
          case rel => exact ⟨j + 1, by omega, by go_num, by rw [HT.out]; congr 1; omega, by rw [HT.out]; omega⟩
          case measure => simp [intOf]; omega
      · have HF : Hid (szStrs ss left = left - n - tot (ss.take j)) := by
          unfold Hid szStrs
          have h4 := HL.out
          rw [List.take_of_length_le (by omega)] at hpos ⊢
          rw [h4, if_neg (by omega)]
        go_wp2
        go_ret
        exact ⟨ret_int HF.out.symm, rfl⟩
set_option maxHeartbeats 400000 in
theorem l_szCard (d f : Int) (B : Nat) (A : Option Addr) (n c : Nat) (ss : List ByteArray) (left : Int) (w : World) (hB : B ≤ w.heap.size) (hR : Reads w B 1 A n (ss.map Value.string)) (hn : n ≤ 9223372036854775807) (hs : ∀ s ∈ ss, s.size ≤ 9223372036854775807) (h0 : -1 ≤ left) (h1 : left ≤ 1048576) :
    Calls Tryz.prog 20 #[.agg #[.int .i64 d, .int .i64 f, .slice A n c], .int .i64 left] w fun e w' => e = .returned (.int .i64 (szStrs ss left)) ∧ Below w.heap.size w w' := by
  have hr : -1 ≤ szStrs ss left := by unfold szStrs; split <;> omega
  by_cases h : szStrs ss left < 0
  · have HF : Hid (szStrs ss left = -1) := by unfold Hid; omega
    go_enter Tryz.func20, Tryz.ntmps20
    go_wp2_with (go_at_call 76; refine (l_szStringS B _ _ _ _ _ _ (hR.alloc hB _) hn hs h0 h1).mono ?_; rintro e w' ⟨rfl, rfl⟩)
    go_ret
    exact ⟨ret_int HF.out.symm, bel⟩
  · go_enter Tryz.func20, Tryz.ntmps20
    go_wp2_with (go_at_call 76; refine (l_szStringS B _ _ _ _ _ _ (hR.alloc hB _) hn hs h0 h1).mono ?_; rintro e w' ⟨rfl, rfl⟩)
    go_ret
    exact ⟨rfl, bel⟩
theorem info_str : (Tryz.prog.info? 9).map (fun i => (i.zero, i.size, i.bytes)) = some (some (.string ByteArray.empty), 1, 16) := by kernel_rfl
def FreshStrs (base : Nat) (ss : List ByteArray) (w : World) (e : Ending) (w' : World) : Prop :=
  ∃ A c, e = .returned (.slice A ss.length c) ∧ w'.ownsRow base 9 1 (.slice A ss.length c) ss.length (ss.map Value.string) ∧ Below w.heap.size w w'
set_option maxHeartbeats 400000 in
theorem l_toStringS (B : Nat) (A : Option Addr) (n c : Nat) (ss : List ByteArray) (w : World) (hS : Strs w B A n ss) (hB : B ≤ w.heap.size) :
    Calls Tryz.prog 78 #[.slice A n c] w (FreshStrs w.heap.size ss w) := by
  have hn := hS.nb
  have hl := hS.len
  have HL := Lib.hid hl
  clear hl
  obtain ⟨i0, hi0, hz0, hz1, hz2⟩ := info_parts info_str
  have hmk := run_make_rowN (P := Tryz.prog) 22 9 i0 _ Tryz.underlying22 hi0 hz0 .i64 .i64 n n (Nat.le_refl _) (by rw [hz2]; omega) (by omega) w
  go_enter Tryz.func78, Tryz.ntmps78
  go_wp2
  go_loopw [4] (fun i wr => ∃ j : Nat, j ≤ n ∧ i = .int .i64 j ∧ wr.ownsRow w.heap.size 9 1 (.slice (some ⟨w.heap.size, 0, none⟩) n n) n ((ss.take j).map Value.string ++ List.replicate (n - j) (.string ByteArray.empty)) ∧ Below w.heap.size w wr) (fun i _ => n - (intOf i).toNat)
  case atStart =>
    refine ⟨0, Nat.zero_le _, rfl, ?_, bel⟩
    have h := World.ownsRow_lit (w := w) (base := w.heap.size) (e := 9) (size := 1) (madeCells #[Value.string ByteArray.empty] n) n (Nat.le_refl _) (by unfold maxLen; omega) (by simp [madeCells])
    rw [toList_madeCells_one] at h
    simpa using h
  case round =>
    obtain ⟨j, hj, rfl, hown, hb⟩ := hrel
    by_cases hlt : j < n
    · obtain ⟨hk1, ad, rfl, hab, hc, hsb⟩ := hS.at_ hlt
      have hc' : wr.cell? (ad.add j) = some (.string ss[j]) := by rw [hb.cell (by rw [block_of_add]; omega)]; exact hc
      obtain ⟨u1, hc1⟩ := own_cell hown (j := j) hlt
      have hf1 := hown.frozenAt j
      go_wp2
      go_roundw
      case rel =>
        have hst := hown.stored j (.string ss[j])
        refine ⟨j + 1, by omega, by go_num, ?_, only_below_B hb hst.2⟩
        have he : ((ss.take j).map Value.string ++ List.replicate (n - j) (Value.string ByteArray.empty)).set j (Value.string ss[j]) = (ss.take (j + 1)).map Value.string ++ List.replicate (n - (j + 1)) (.string ByteArray.empty) := by
          have hlj : ((ss.take j).map Value.string).length = j := by rw [List.length_map, List.length_take]; omega
          rw [List.set_append, if_neg (by rw [hlj]; omega), hlj, Nat.sub_self, show n - j = (n - (j + 1)) + 1 from by omega, List.replicate_succ, List.set_cons_zero, List.take_succ_eq_append_getElem hk1, List.map_append, List.append_assoc]
          rfl
        rw [← he]; exact hst.1
      case measure => simp [intOf]; omega
    · have hjn : j = n := by omega
      subst hjn
      have hE : (ss.take j).map Value.string ++ List.replicate (j - j) (.string ByteArray.empty) = ss.map Value.string := by
        rw [List.take_of_length_le (by have := HL.out; omega)]; simp
      rw [hE] at hown
      clear hE
      have HO := hide hown
      clear hown
      go_wp2
      go_ret
      have hl := HL.out
      subst hl
      exact ⟨_, _, rfl, unhide HO, hb⟩
def FreshCard (base : Nat) (d f : Int) (ss : List ByteArray) (w : World) (e : Ending) (w' : World) : Prop :=
  ∃ A c, e = .returned (.agg #[.int .i64 d, .int .i64 f, .slice A ss.length c]) ∧ w'.ownsRow base 9 1 (.slice A ss.length c) ss.length (ss.map Value.string) ∧ Below w.heap.size w w'
set_option maxHeartbeats 400000 in
theorem l_toCard (d f : Int) (B : Nat) (A : Option Addr) (n c : Nat) (ss : List ByteArray) (w : World) (hS : Strs w B A n ss) (hB : B ≤ w.heap.size) :
    Calls Tryz.prog 22 #[.agg #[.int .i64 d, .int .i64 f, .slice A n c]] w (FreshCard w.heap.size d f ss w) := by
  go_enter Tryz.func22, Tryz.ntmps22
  go_wp2_with (go_at_call 78; refine (l_toStringS B _ _ _ _ _ (((hS.alloc hB _).alloc (by simp; omega) _).alloc (by simp; omega) _) (by simp; omega)).mono ?_; rintro e w1 ⟨A1, c1, rfl, ho1, hb1⟩; obtain ⟨hcb, hfb⟩ := bcell hb1)
  refine bodyPost_ret (v := .agg #[.int .i64 d, .int .i64 f, .slice A1 ss.length c1]) (by simp [results, Tryz.results22, go_sem, hcb]) rfl ?_
  exact ⟨A1, c1, rfl, own_up ho1 upr (by first | exact Nat.le_refl _ | (simp; done) | omega | (simp; omega) | exact (‹_ ∧ _ ∧ Below _ _ _›).2.2.size), bel⟩
end Go.Proofs.YtdddglihomchfaaGreat
namespace Go.Proofs.YtdddglihomchfaaGreat
open Go.ChangeShapes Go.WideShapes Go.ChangeAt Go.RowKit
set_option linter.unusedVariables false
theorem made_at {e : TypeId} {size : Nat} (W : World) (base k : Nat) (hk : W.heap.size = k) (hb : base ≤ k) : (W.alloc (.cells #[] e)).ownsRow base e size (.slice (some ⟨k, 0, none⟩) 0 0) 0 [] := by
  subst hk
  exact World.ownsRow_made W #[] 0 hb (by unfold maxLen; omega) (by simp)
theorem fresh_of {base n : Nat} {v : Value} {ss : List ByteArray} {w w' : World} (hl : ss.length = n) (ho : w'.ownsRow base 9 1 v n (ss.map Value.string)) (hb : Below w.heap.size w w') : FreshStrs base ss w (.returned v) w' := by
  subst hl
  rcases ho.2 with ⟨rfl, h0⟩ | ⟨g, cap, cur, rfl, _⟩
  · rw [h0] at ho
    refine ⟨none, 0, by rw [h0], ?_, hb⟩
    rw [h0]; exact ho
  · exact ⟨_, _, rfl, ho, hb⟩
set_option maxHeartbeats 400000 in
theorem clone_str (B : Nat) (A : Option Addr) (n c : Nat) (ss : List ByteArray) (w : World) (hS : Strs w B A n ss) (hB : B ≤ w.heap.size) :
    Calls Tryz.prog 136 #[.slice A n c] w (FreshStrs w.heap.size ss w) := by
  have hn := hS.nb
  have hl := hS.len
  have hR := hS.rd
  rcases A with _ | ad
  · have hn0 : n = 0 := by
      rcases Nat.eq_zero_or_pos n with h0 | h0
      · exact h0
      · obtain ⟨_, ad, h, _⟩ := hS.at_ h0; cases h
    subst hn0
    have hs0 : ss = [] := List.eq_nil_of_length_eq_zero hl
    subst hs0
    have hnil := fun W => Lib.run_eql_slice_nil (P := Tryz.prog) W 22
    clear hl
    go_enter Tryz.func136, Tryz.ntmps136
    go_wp2
    go_ret
    exact ⟨none, 0, rfl, World.ownsRow_nil w _ _ _, Below.refl _ _⟩
  · have hnil := fun W => Lib.run_eql_slice_nil (P := Tryz.prog) W 22
    obtain ⟨i0, hi0, hz0, hz1, hz2⟩ := info_parts info_str
    have hown : (w.alloc (.cells #[] 9)).ownsRow w.heap.size 9 1 (.slice (some ⟨w.heap.size, 0, none⟩) 0 0) 0 [] := World.ownsRow_made w #[] 0 (Nat.le_refl _) (by unfold maxLen; omega) rfl
    have hR1 := hR.alloc hB (.cells #[] 9)
    have hone : ∀ u ∈ ss.map Value.string, u.oneCell' = true := by
      intro u hu; obtain ⟨s, _, rfl⟩ := List.mem_map.1 hu; rfl
    have HL := Lib.hid hl
    clear hl
    go_enter Tryz.func136, Tryz.ntmps136
    go_wp2_with (at_builtin; refine wpList_append_any _ rfl (.tmp 5) (.tmp 6) _ rfl w.heap.size 9 i0 _ 1 16 Tryz.underlying22 hi0 hz0 hz1 hz2 rfl (by omega) (.slice (some ⟨w.heap.size, 0, none⟩) 0 0) 0 [] rfl hown B (some ad) n c (ss.map Value.string) rfl hR1 hone ?_ ?_ ?_ ?_; (unfold maxLen; omega); omega; (simp); intro v1 w1 hown1 hg1 hat1)
    have hfr := fresh_of (ss := ss) (n := n) HL.out (by simpa using hown1) (((Below.refl _ _).alloc (Nat.le_refl _) _).grown hg1 (by simp) (by intro k hk; simp [Value.ownBlock] at hk; omega))
    have HFR := hide hfr
    clear hfr hown1 hg1 hat1
    go_ret
    exact (unhide HFR)
set_option maxHeartbeats 400000 in
theorem i_copied (d f : Int) (B : Nat) (A : Option Addr) (n c : Nat) (ss : List ByteArray) (w : World) (hS : Strs w B A n ss) (hB : B ≤ w.heap.size) :
    Calls Tryz.prog 79 #[.agg #[.int .i64 d, .int .i64 f, .slice A n c]] w (FreshCard w.heap.size d f ss w) := by
  have hS2 := (hS.alloc hB (.cells #[.int .i64 d, .int .i64 f, .slice A n c] 34)).alloc (by simp; omega) (.cells #[.int .i64 0, .int .i64 0, .slice none 0 0] 34)
  have hB2 : B ≤ ((w.alloc (.cells #[.int .i64 d, .int .i64 f, .slice A n c] 34)).alloc (.cells #[.int .i64 0, .int .i64 0, .slice none 0 0] 34)).heap.size := by simp; omega
  go_enter Tryz.func79, Tryz.ntmps79
  go_wp2
  go_region_held3 (fun W => (∀ b o, b < w.heap.size + 1 → W.cell? ⟨b, o, none⟩ = ((w.alloc (.cells #[.int .i64 d, .int .i64 f, .slice A n c] 34)).alloc (.cells #[.int .i64 0, .int .i64 0, .slice none 0 0] 34)).cell? ⟨b, o, none⟩) ∧ (∀ b o, b < w.heap.size + 1 → W.frozen? ⟨b, o, none⟩ = ((w.alloc (.cells #[.int .i64 d, .int .i64 f, .slice A n c] 34)).alloc (.cells #[.int .i64 0, .int .i64 0, .slice none 0 0] 34)).frozen? ⟨b, o, none⟩) ∧ Below (w.heap.size + 1) ((w.alloc (.cells #[.int .i64 d, .int .i64 f, .slice A n c] 34)).alloc (.cells #[.int .i64 0, .int .i64 0, .slice none 0 0] 34)) W) (exact keep_of bel) (first | (go_at_call 136; have hq := (‹_ ∧ _ ∧ Below _ _ _›).2.2; refine (clone_str B _ _ _ ss _ ?_ ?_).mono ?_; exact hS2.below (hq.mono (by omega)); exact Nat.le_trans hB2 hq.size; rintro e w1 ⟨A1, c1, rfl, ho1, hb1⟩; obtain ⟨hcb, hfb⟩ := bcell hb1))
  go_wp2
  refine bodyPost_ret (v := .agg #[.int .i64 d, .int .i64 f, .slice A1 ss.length c1]) (by simp [results, Tryz.results79, go_sem, hcb]) rfl ?_
  exact ⟨A1, c1, rfl, own_up ho1 upr (by first | exact Nat.le_refl _ | (simp; done) | omega | (simp; omega) | exact (‹_ ∧ _ ∧ Below _ _ _›).2.2.size), bel⟩
set_option maxHeartbeats 400000 in
theorem s_l05Copy (d f : Int) (B : Nat) (A : Option Addr) (n c : Nat) (ss : List ByteArray) (w : World) (hS : Strs w B A n ss) (hB : B ≤ w.heap.size) :
    Calls Tryz.prog 77 #[.agg #[.int .i64 d, .int .i64 f, .slice A n c]] w (FreshCard w.heap.size d f ss w) := by
  have hn := hS.nb
  have hl := hS.len
  have hS2 := (hS.alloc hB (.cells #[.int .i64 d, .int .i64 f, .slice A n c] 34)).alloc (by simp; omega) (.cells #[.int .i64 0, .int .i64 0, .slice none 0 0] 34)
  have hB2 : B ≤ ((w.alloc (.cells #[.int .i64 d, .int .i64 f, .slice A n c] 34)).alloc (.cells #[.int .i64 0, .int .i64 0, .slice none 0 0] 34)).heap.size := by simp; omega
  obtain ⟨i0, hi0, hz0, hz1, hz2⟩ := info_parts info_str
  have hown : (((w.alloc (.cells #[.int .i64 d, .int .i64 f, .slice A n c] 34)).alloc (.cells #[.int .i64 0, .int .i64 0, .slice none 0 0] 34)).alloc (.cells #[] 9)).ownsRow (w.heap.size + 2) 9 1 (.slice (some ⟨w.heap.size + 1 + 1, 0, none⟩) 0 0) 0 [] := made_at _ _ _ (by simp) (by omega)
  have hone : ∀ u ∈ ss.map Value.string, u.oneCell' = true := by
    intro u hu; obtain ⟨s, _, rfl⟩ := List.mem_map.1 hu; rfl
  have HL := Lib.hid hl
  clear hl
  go_enter Tryz.func77, Tryz.ntmps77
  go_wp2
  go_region_held3 (fun W => (∀ b o, b < w.heap.size + 1 → W.cell? ⟨b, o, none⟩ = ((w.alloc (.cells #[.int .i64 d, .int .i64 f, .slice A n c] 34)).alloc (.cells #[.int .i64 0, .int .i64 0, .slice none 0 0] 34)).cell? ⟨b, o, none⟩) ∧ (∀ b o, b < w.heap.size + 1 → W.frozen? ⟨b, o, none⟩ = ((w.alloc (.cells #[.int .i64 d, .int .i64 f, .slice A n c] 34)).alloc (.cells #[.int .i64 0, .int .i64 0, .slice none 0 0] 34)).frozen? ⟨b, o, none⟩) ∧ Below (w.heap.size + 1) ((w.alloc (.cells #[.int .i64 d, .int .i64 f, .slice A n c] 34)).alloc (.cells #[.int .i64 0, .int .i64 0, .slice none 0 0] 34)) W) (exact keep_of bel) (first | (refine step_append_sl _ rfl (.tmp 7) (.tmp 9) _ rfl (w.heap.size + 2) 9 i0 _ 1 16 Tryz.underlying22 hi0 hz0 hz1 hz2 rfl (by omega) (.slice (some ⟨w.heap.size + 1 + 1, 0, none⟩) 0 0) 0 [] rfl hown.drew B A n c (ss.map Value.string) rfl ((hS2.rd.alloc hB2 _).drew) hone ?_ ?_ ?_ ?_; (unfold maxLen; omega); omega; (simp); intro A1 c1 w1 ho1 hb1; obtain ⟨hcb, hfb⟩ := bcellB hb1))
  go_wp2
  have hl := HL.out
  subst hl
  simp only [Nat.zero_add, List.nil_append] at ho1 ⊢
  refine bodyPost_ret (v := .agg #[.int .i64 d, .int .i64 f, .slice A1 ss.length c1]) (by simp [results, Tryz.results77, go_sem, hcb]) rfl ?_
  exact ⟨A1, c1, rfl, own_up ho1 upr (by first | exact Nat.le_refl _ | (simp; done) | omega | (simp; omega) | exact (‹_ ∧ _ ∧ Below _ _ _›).2.2.size), bel⟩
set_option maxHeartbeats 400000 in
theorem i_hasStrip (d f : Int) (B : Nat) (A : Option Addr) (n c : Nat) (ss : List ByteArray) (k : Int) (w : World) (hS : Strs w B A n ss) (hB : B ≤ w.heap.size) :
    Calls Tryz.prog 193 #[.agg #[.int .i64 d, .int .i64 f, .slice A n c], .int .i64 k] w fun e w' => e = .returned (.bool (cardOk d f ss && inB k 0 ((n : Int) - 1))) ∧ Below w.heap.size w w' := by
  have hn := hS.nb
  cases hc : cardOk d f ss <;>
  · go_enter Tryz.func193, Tryz.ntmps193
    go_wp2_with (first | (go_at_call 126; refine (i_CardOk _ _ _ _ _ ss _ ?_).mono ?_; exact (hS.alloc hB _).more (by simp; omega); rintro e w1 ⟨rfl, hb1⟩; obtain ⟨hcb, hfb⟩ := bcell hb1) | (go_at_call 72; refine (i_within _ _ _ _).mono ?_; rintro e w' ⟨rfl, rfl⟩))
    go_ret
    exact ⟨ret_bool (by simp), bel⟩
end Go.Proofs.YtdddglihomchfaaGreat
namespace Go.Proofs.YtdddglihomchfaaGreat
open Go.ChangeShapes Go.WideShapes Go.ChangeAt Go.RowKit
set_option linter.unusedVariables false
def FreshCardB (base : Nat) (d f : Int) (ss : List ByteArray) (b : Bool) (w : World) (e : Ending) (w' : World) : Prop :=
  ∃ A c, e = .returned (.tuple #[.agg #[.int .i64 d, .int .i64 f, .slice A ss.length c], .bool b]) ∧ w'.ownsRow base 9 1 (.slice A ss.length c) ss.length (ss.map Value.string) ∧ Below w.heap.size w w'
set_option maxHeartbeats 400000 in
theorem i_changed_yes (d f : Int) (B : Nat) (A A2 : Option Addr) (n c n2 c2 : Nat) (ss ts : List ByteArray) (w : World) (hS : Strs w B A n ss) (hT : Strs w B A2 n2 ts) (hB : B ≤ w.heap.size) (hc : cardOk d f ts = true) :
    Calls Tryz.prog 206 #[.agg #[.int .i64 d, .int .i64 f, .slice A n c], .slice A2 n2 c2] w fun e w' => e = .returned (.tuple #[.agg #[.int .i64 d, .int .i64 f, .slice A2 n2 c2], .bool true]) ∧ Below w.heap.size w w' := by
  have hT3 := ((hT.alloc hB (.cells #[.int .i64 d, .int .i64 f, .slice A n c] 34)).alloc (by simp; omega) (.cells #[.int .i64 0, .int .i64 0, .slice none 0 0] 34)).alloc (by simp; omega) (.cells #[.int .i64 d, .int .i64 f, .slice A2 n2 c2] 34)
  go_enter Tryz.func206, Tryz.ntmps206
  go_wp2_with (first | (go_at_call 126; refine (i_CardOk _ _ _ _ _ ts _ ?_).mono ?_; exact hT3.more (by simp; omega); rintro e w1 ⟨rfl, hb1⟩; obtain ⟨hcb, hfb⟩ := bcell hb1))
  refine bodyPost_ret (v := .tuple #[.agg #[.int .i64 d, .int .i64 f, .slice A2 n2 c2], .bool true]) (by simp [results, Tryz.results206, go_sem, hcb]) rfl ?_
  exact ⟨rfl, bel⟩
set_option maxHeartbeats 400000 in
theorem i_changed_no (d f : Int) (B : Nat) (A A2 : Option Addr) (n c n2 c2 : Nat) (ss ts : List ByteArray) (w : World) (hS : Strs w B A n ss) (hT : Strs w B A2 n2 ts) (hB : B ≤ w.heap.size) (hc : cardOk d f ts = false) :
    Calls Tryz.prog 206 #[.agg #[.int .i64 d, .int .i64 f, .slice A n c], .slice A2 n2 c2] w (FreshCardB w.heap.size d f ss false w) := by
  have hT3 := ((hT.alloc hB (.cells #[.int .i64 d, .int .i64 f, .slice A n c] 34)).alloc (by simp; omega) (.cells #[.int .i64 0, .int .i64 0, .slice none 0 0] 34)).alloc (by simp; omega) (.cells #[.int .i64 d, .int .i64 f, .slice A2 n2 c2] 34)
  have hS3 := ((hS.alloc hB (.cells #[.int .i64 d, .int .i64 f, .slice A n c] 34)).alloc (by simp; omega) (.cells #[.int .i64 0, .int .i64 0, .slice none 0 0] 34)).alloc (by simp; omega) (.cells #[.int .i64 d, .int .i64 f, .slice A2 n2 c2] 34)
  go_enter Tryz.func206, Tryz.ntmps206
  go_wp2_with (first | (go_at_call 126; refine (i_CardOk _ _ _ _ _ ts _ ?_).mono ?_; exact hT3.more (by simp; omega); rintro e w1 ⟨rfl, hb1⟩; obtain ⟨hcb, hfb⟩ := bcell hb1; have hz_w1_0 : w.heap.size < w1.heap.size := (by have hzz := hb1.size; (try simp at hzz); omega); have hy_w1_0 := Nat.le_of_lt hz_w1_0; have hz_w1_1 : w.heap.size + 1 < w1.heap.size := (by have hzz := hb1.size; (try simp at hzz); omega); have hy_w1_1 := Nat.le_of_lt hz_w1_1; have hz_w1_2 : w.heap.size + 1 + 1 < w1.heap.size := (by have hzz := hb1.size; (try simp at hzz); omega); have hy_w1_2 := Nat.le_of_lt hz_w1_2) | (go_at_call 79; refine (i_copied _ _ B _ _ _ ss _ ?_ ?_).mono ?_; exact hS3.below (hb1.mono (by simp; omega)); exact Nat.le_trans (by simp; omega) hb1.size; rintro e w2 ⟨A1, c1, rfl, ho2, hb2⟩; obtain ⟨hcb2, hfb2⟩ := bcell hb2; have hz_w2_0 : w.heap.size < w2.heap.size := (by have hzz := hb2.size; (try simp at hzz); omega); have hy_w2_0 := Nat.le_of_lt hz_w2_0; have hz_w2_1 : w.heap.size + 1 < w2.heap.size := (by have hzz := hb2.size; (try simp at hzz); omega); have hy_w2_1 := Nat.le_of_lt hz_w2_1; have hz_w2_2 : w.heap.size + 1 + 1 < w2.heap.size := (by have hzz := hb2.size; (try simp at hzz); omega); have hy_w2_2 := Nat.le_of_lt hz_w2_2))
  refine bodyPost_ret (v := .tuple #[.agg #[.int .i64 d, .int .i64 f, .slice A1 ss.length c1], .bool false]) (by simp [results, Tryz.results206, go_sem, *]) rfl ?_
  exact ⟨A1, c1, rfl, own_up ho2 upr (by first | exact Nat.le_refl _ | (simp; done) | omega | (simp; omega) | exact (‹_ ∧ _ ∧ Below _ _ _›).2.2.size), bel⟩
def putAt (d f : Int) (ss : List ByteArray) (k : Int) (s : ByteArray) : List ByteArray × Bool :=
  if (cardOk d f ss && inB k 0 ((ss.length : Int) - 1)) && cardOk d f (ss.set k.toNat s) then (ss.set k.toNat s, true) else (ss, false)
theorem Strs.setCell {w : World} {B n : Nat} {A : Option Addr} {ss : List ByteArray} (h : Strs w B A n ss) {p : Addr} (hB : B ≤ p.block) (u : Value) : Strs (w.setCell p u) B A n ss := ⟨h.rd.setCell hB u, h.nb, h.sb⟩
theorem set_map (ss : List ByteArray) (k : Nat) (s : ByteArray) : (ss.map Value.string).set k (Value.string s) = (ss.set k s).map Value.string := by
  rw [List.map_set]
theorem strs_of_own {w : World} {base n c : Nat} {A : Option Addr} {ss : List ByteArray} (h : w.ownsRow base 9 1 (.slice A n c) n (ss.map Value.string)) (hn : n ≤ 16777216) (hs : ∀ s ∈ ss, s.size ≤ 16777216) : Strs w w.heap.size A n ss :=
  ⟨Reads.of_own h, hn, hs⟩
theorem inB_iff {x a b : Int} : inB x a b = true ↔ a ≤ x ∧ x ≤ b := by simp [inB]
set_option maxHeartbeats 400000 in
theorem i_WithStrip (d f : Int) (B : Nat) (A : Option Addr) (n c : Nat) (ss : List ByteArray) (k : Int) (s : ByteArray) (w : World) (hS : Strs w B A n ss) (hB : B ≤ w.heap.size) (hs : s.size ≤ 16777216) :
    Calls Tryz.prog 194 #[.agg #[.int .i64 d, .int .i64 f, .slice A n c], .int .i64 k, .string s] w (FreshCardB w.heap.size d f (putAt d f ss k s).1 (putAt d f ss k s).2 w) := by
  have hn := hS.nb
  have hl := hS.len
  have hS2 := (hS.alloc hB (.cells #[.int .i64 d, .int .i64 f, .slice A n c] 34)).alloc (by simp; omega) (.cells #[.int .i64 0, .int .i64 0, .slice none 0 0] 34)
  cases hh : (cardOk d f ss && inB k 0 ((n : Int) - 1))
  · have HP : putAt d f ss k s = (ss, false) := by unfold putAt; rw [hl, hh]; rfl
    rw [HP]
    go_enter Tryz.func194, Tryz.ntmps194
    go_wp2_with (first | (go_at_call 193; refine (i_hasStrip _ _ B _ _ _ ss _ _ hS2 (by simp; omega)).mono ?_; rintro e w1 ⟨rfl, hb1⟩; obtain ⟨hcb, hfb⟩ := bcell hb1; have hz_w1_0 : w.heap.size < w1.heap.size := (by have hzz := hb1.size; (try simp at hzz); omega); have hy_w1_0 := Nat.le_of_lt hz_w1_0; have hz_w1_1 : w.heap.size + 1 < w1.heap.size := (by have hzz := hb1.size; (try simp at hzz); omega); have hy_w1_1 := Nat.le_of_lt hz_w1_1) | (go_at_call 79; refine (i_copied _ _ B _ _ _ ss _ (hS2.below (hb1.mono (by simp; omega))) (by omega)).mono ?_; rintro e w2 ⟨A1, c1, rfl, ho2, hb2⟩; obtain ⟨hcb2, hfb2⟩ := bcell hb2; have hz_w2_0 : w.heap.size < w2.heap.size := (by have hzz := hb2.size; (try simp at hzz); omega); have hy_w2_0 := Nat.le_of_lt hz_w2_0; have hz_w2_1 : w.heap.size + 1 < w2.heap.size := (by have hzz := hb2.size; (try simp at hzz); omega); have hy_w2_1 := Nat.le_of_lt hz_w2_1))
    refine bodyPost_ret (v := .tuple #[.agg #[.int .i64 d, .int .i64 f, .slice A1 ss.length c1], .bool false]) (by simp [results, Tryz.results194, go_sem, *]) rfl ?_
    exact ⟨A1, c1, rfl, own_up ho2 upr (by first | exact Nat.le_refl _ | (simp; done) | omega | (simp; omega) | exact (‹_ ∧ _ ∧ Below _ _ _›).2.2.size), bel⟩
  · obtain ⟨hck, hk⟩ : cardOk d f ss = true ∧ inB k 0 ((n : Int) - 1) = true := by simpa using hh
    obtain ⟨hk0, hk1⟩ := inB_iff.1 hk
    obtain ⟨K, rfl⟩ := Int.eq_ofNat_of_zero_le hk0
    have hKn : K < n := by omega
    have hsb : ∀ x ∈ ss.set K s, x.size ≤ 16777216 := by
      intro x hx
      rcases List.mem_or_eq_of_mem_set hx with h | h
      · exact hS.sb x h
      · rw [h]; exact hs
    have HL := Lib.hid hl
    have HPY : Hid (cardOk d f (ss.set K s) = true → putAt d f ss K s = (ss.set K s, true)) := by
      intro h; unfold putAt; rw [hl, hh]; simp [h]
    have HPN : Hid (cardOk d f (ss.set K s) = false → putAt d f ss K s = (ss, false)) := by
      intro h; unfold putAt; rw [hl, hh]; simp [h]
    clear hl hck hk
    go_enter Tryz.func194, Tryz.ntmps194
    go_wp2_with (first | (go_at_call 193; refine (i_hasStrip _ _ B _ _ _ ss _ _ hS2 (by simp; omega)).mono ?_; rintro e w1 ⟨rfl, hb1⟩; obtain ⟨hcb, hfb⟩ := bcell hb1; have hz_w1_0 : w.heap.size < w1.heap.size := (by have hzz := hb1.size; (try simp at hzz); omega); have hy_w1_0 := Nat.le_of_lt hz_w1_0; have hz_w1_1 : w.heap.size + 1 < w1.heap.size := (by have hzz := hb1.size; (try simp at hzz); omega); have hy_w1_1 := Nat.le_of_lt hz_w1_1) | (go_at_call 136; refine (clone_str B _ _ _ ss _ (hS2.below (hb1.mono (by simp; omega))) (by omega)).mono ?_; rintro e w2 ⟨A1, c1, rfl, ho2, hb2⟩; obtain ⟨hcb2, hfb2⟩ := bcell hb2; have hz_w2_0 : w.heap.size < w2.heap.size := (by have hzz := hb2.size; (try simp at hzz); omega); have hy_w2_0 := Nat.le_of_lt hz_w2_0; have hz_w2_1 : w.heap.size + 1 < w2.heap.size := (by have hzz := hb2.size; (try simp at hzz); omega); have hy_w2_1 := Nat.le_of_lt hz_w2_1; have hKl : K < ss.length := (by have := HL.out; omega); obtain ⟨g, cap, hv, hbg, hglt⟩ := ho2.form (by omega); (have hA : A1 = some ⟨g, 0, none⟩ := (by injection hv)); subst hA; clear hv; obtain ⟨u1, hc1⟩ := own_cell ho2 (j := K) hKl; have hf1 := ho2.frozenAt K))
    have ho3 := (ho2.stored K (.string s)).1
    rw [set_map] at ho3
    have hsz3 : (w2.setCell ⟨g, K, none⟩ (.string s)).heap.size = w2.heap.size := by simp [World.setCell]
    have hT3 : Strs (w2.setCell ⟨g, K, none⟩ (.string s)) w2.heap.size (some ⟨g, 0, none⟩) ss.length (ss.set K s) := by
      have h := strs_of_own ho3 (by have := HL.out; omega) hsb
      rw [hsz3] at h; exact h
    have hS3 : Strs (w2.setCell ⟨g, K, none⟩ (.string s)) B A n ss := ((hS2.below (hb1.mono (by simp; omega))).below (hb2.mono (by omega))).setCell (by have := hb1.size; simp at this; show B ≤ g; omega) _
    have hlen : (ss.set K s).length = ss.length := List.length_set
    have HLEN := Lib.hid hlen
    clear hlen hsz3
    cases hcs : cardOk d f (ss.set K s)
    · have HP := Lib.hid (HPN.out hcs)
      refine (i_changed_no _ _ w2.heap.size _ _ _ _ _ _ ss (ss.set K s) _ (hS3.more (by omega)) hT3 (by simp [World.setCell]) hcs).mono ?_
      rintro e w3 ⟨A4, c4, rfl, ho4, hb4⟩
      obtain ⟨hcb4, hfb4⟩ := bcell hb4
      have hz_w3_0 : w.heap.size < w3.heap.size := (by have hzz := hb4.size; (try simp at hzz); omega); have hy_w3_0 := Nat.le_of_lt hz_w3_0; have hz_w3_1 : w.heap.size + 1 < w3.heap.size := (by have hzz := hb4.size; (try simp at hzz); omega); have hy_w3_1 := Nat.le_of_lt hz_w3_1
      clear hcs
      go_wp2
      refine bodyPost_ret (v := .tuple #[.agg #[.int .i64 d, .int .i64 f, .slice A4 ss.length c4], .bool false]) (by simp [results, Tryz.results194, go_sem, *]) rfl ?_
      rw [HP.out]
      exact ⟨A4, c4, rfl, own_up ho4 upr (by first | exact Nat.le_refl _ | (simp; done) | omega | (simp; omega) | exact (‹_ ∧ _ ∧ Below _ _ _›).2.2.size), bel⟩
    · have HP := Lib.hid (HPY.out hcs)
      refine (i_changed_yes _ _ w2.heap.size _ _ _ _ _ _ ss (ss.set K s) _ (hS3.more (by omega)) hT3 (by simp [World.setCell]) hcs).mono ?_
      rintro e w3 ⟨rfl, hb4⟩
      obtain ⟨hcb4, hfb4⟩ := bcell hb4
      have hz_w3_0 : w.heap.size < w3.heap.size := (by have hzz := hb4.size; (try simp at hzz); omega); have hy_w3_0 := Nat.le_of_lt hz_w3_0; have hz_w3_1 : w.heap.size + 1 < w3.heap.size := (by have hzz := hb4.size; (try simp at hzz); omega); have hy_w3_1 := Nat.le_of_lt hz_w3_1
      have ho4 := own_below ho3 hb4
      clear hcs
      go_wp2
      refine bodyPost_ret (v := .tuple #[.agg #[.int .i64 d, .int .i64 f, .slice (some ⟨g, 0, none⟩) ss.length c1], .bool true]) (by simp [results, Tryz.results194, go_sem, *]) rfl ?_
      rw [HP.out]
      unfold FreshCardB
      dsimp only
      rw [HLEN.out]
      exact ⟨_, c1, rfl, own_up ho4 upr (by first | exact Nat.le_refl _ | (simp; done) | omega | (simp; omega) | exact (‹_ ∧ _ ∧ Below _ _ _›).2.2.size), bel⟩
end Go.Proofs.YtdddglihomchfaaGreat
namespace Go.Proofs.YtdddglihomchfaaGreat
open Go.ChangeShapes Go.WideShapes Go.ChangeAt Go.RowKit
set_option linter.unusedVariables false
theorem gcell {w w' : World} {g : Nat} (h : w.grownBy w' (some g)) : (∀ b o, b < w.heap.size → b ≠ g → w'.cell? ⟨b, o, none⟩ = w.cell? ⟨b, o, none⟩) ∧ (∀ b o, b < w.heap.size → b ≠ g → w'.frozen? ⟨b, o, none⟩ = w.frozen? ⟨b, o, none⟩) :=
  ⟨fun b o hb hne => World.cell?_of_block (a := ⟨b, o, none⟩) (h.block b hb (by intro e; injection e; exact hne (by assumption))), fun b o hb hne => World.frozen?_of_block (a := ⟨b, o, none⟩) (h.block b hb (by intro e; injection e; exact hne (by assumption)))⟩
theorem blk_cells {w : World} {g : Nat} {t : TypeId} {cs : Array Value} (h : w.heap[g]? = some (.cells cs t (0, 0))) (i : Nat) : w.cell? ⟨g, i, none⟩ = cs[i]? ∧ w.frozen? ⟨g, i, none⟩ = false :=
  ⟨cell_of_row w g i cs t (0, 0) h, frozen_of_row w g i cs t h⟩
theorem blk_lt {w : World} {g : Nat} {o : Obj} (h : w.heap[g]? = some o) : g < w.heap.size := (Array.getElem?_eq_some_iff.1 h).1
theorem blk_set {w : World} {g : Nat} {t : TypeId} {cs : Array Value} (h : w.heap[g]? = some (.cells cs t (0, 0))) (i : Nat) (u : Value) : (w.setCell ⟨g, i, none⟩ u).heap[g]? = some (.cells (cs.setIfInBounds i u) t (0, 0)) :=
  heap_setCell_same w g i cs t u h
theorem blk_new (W : World) (o : Obj) : (W.alloc o).heap[W.heap.size]? = some o := heap_alloc_new W o
theorem box_first (w : World) (o o2 : Obj) : ((w.alloc o).alloc o2).heap[w.heap.size]? = some o := (Below.heap_alloc _ _ _ (by simp)).trans (blk_new w o)
theorem box_second (w : World) (o o2 : Obj) : ((w.alloc o).alloc o2).heap[w.heap.size + 1]? = some o2 := by
  have h := blk_new (w.alloc o) o2
  simpa using h
theorem blk_alloc {g : Nat} {w : World} {o : Obj} (h : w.heap[g]? = some o) (o' : Obj) : (w.alloc o').heap[g]? = some o := (Below.heap_alloc _ _ _ (blk_lt h)).trans h
theorem blk_drew {g : Nat} {w : World} {o : Obj} (h : w.heap[g]? = some o) : w.drew.heap[g]? = some o := h
theorem blk_below {B g : Nat} {w w' : World} {o : Obj} (h : w.heap[g]? = some o) (hb : Below B w w') (hg : g < B) : w'.heap[g]? = some o := (hb.block g hg).trans h
section
variable {P : Program} (w : World)
theorem wpList_append_N {ops : Array Oper} {rest : List Oper} {o : Oper} {a : Act} {Q : Exit → Act → World → Prop} (hgd : o.guard = none) (s x : Operand) (t : TypeId)
    (ho : o.op = .call { callee := .builtin .append, args := #[s, x], argTypes := #[t, t] })
    (base : Nat) (e : TypeId) (i : TypeInfo) (z : Value) (size bytes : Nat) (ht : P.underlying t = some (.slice e)) (hi : P.info? e = some i) (hz : i.zero = some z)
    (hsize : i.size = size) (hby : i.bytes = bytes) (hzs : z.cells.size = size) (hsz : 0 < size)
    (v : Value) (n : Nat) (xs : List Value) (hs : a.eval s = v) (hown : w.ownsRow base e size v n xs)
    (B : Nat) (A : Option Addr) (m c : Nat) (news : List Value) (hx : a.eval x = .slice A m c) (hr : Reads w B size A m news) (h1 : ∀ u ∈ news, u.oneCell' = true)
    (h63 : n + m ≤ maxLen) (hbytes : (n + m) * bytes ≤ 140737488355328) (hbase : base ≤ w.heap.size)
    (N : Nat) (ys : List Value) (hN : n + m = N) (hys : xs ++ news = ys) (h : ∀ A' c' w', w'.ownsRow base e size (.slice A' N c') N ys → Below base w w' → wpList P ops Q rest (a.put o.dst (.slice A' N c')) w') : wpList P ops Q (o :: rest) a w := by
  refine wpList_append_any w hgd s x t ho base e i z size bytes ht hi hz hsize hby hzs hsz v n xs hs hown B A m c news hx hr h1 h63 hbytes hbase ?_
  subst hN; subst hys
  intro v' w' h2 h3 h4
  obtain ⟨A', c', rfl⟩ := own_slice h2
  exact h A' c' w' h2 (grown_below h3 (fun k hk => (hown.lt k hk).1) hbase)
end
end Go.Proofs.YtdddglihomchfaaGreat
namespace Go.Proofs.YtdddglihomchfaaGreat
open Go.ChangeShapes Go.WideShapes Go.ChangeAt Go.RowKit
set_option linter.unusedVariables false
set_option maxRecDepth 10000
theorem blk_next {g : Nat} {w w' : World} {o : Obj} (h : w.heap[g]? = some o) (hb : Below w.heap.size w w') : w'.heap[g]? = some o := blk_below h hb (blk_lt h)
theorem blk3 {w : World} {g : Nat} {t : TypeId} {a b c : Value} (h : w.heap[g]? = some (.cells #[a, b, c] t (0, 0))) :
    w.cell? ⟨g, 0, none⟩ = some a ∧ w.cell? ⟨g, 1, none⟩ = some b ∧ w.cell? ⟨g, 2, none⟩ = some c ∧ g < w.heap.size :=
  ⟨(blk_cells h 0).1, (blk_cells h 1).1, (blk_cells h 2).1, blk_lt h⟩
theorem l_eqCard_args (d f : Int) (B : Nat) (A1 A2 : Option Addr) (n1 n2 c1 c2 : Nat) (ss : List ByteArray) (w : World) (h1 : Strs w B A1 n1 ss) (h2 : Strs w B A2 n2 ss) (hB : B ≤ w.heap.size) :
    Calls Tryz.prog 24 #[.agg #[.int .i64 d, .int .i64 f, .slice A1 n1 c1], .agg #[.int .i64 d, .int .i64 f, .slice A2 n2 c2]] w fun e w' => e = .returned (.bool true) ∧ Below w.heap.size w w' := by
  refine (l_eqCard B d f d f A1 A2 n1 n2 c1 c2 ss ss w h1 h2 hB).mono ?_
  rintro e w' ⟨rfl, hb⟩
  exact ⟨ret_bool (by simp [eqSS]), hb⟩
end Go.Proofs.YtdddglihomchfaaGreat
namespace Go.Proofs.YtdddglihomchfaaGreat
open Go.ChangeShapes Go.WideShapes Go.ChangeAt Go.RowKit
set_option linter.unusedVariables false
set_option maxRecDepth 10000
theorem own_base {w : World} {base base' : Nat} {e : TypeId} {size : Nat} {v : Value} {n : Nat} {xs : List Value} (h : w.ownsRow base e size v n xs) (hb : base' ≤ base) : w.ownsRow base' e size v n xs :=
  own_up h (Upper.refl _ _) hb
theorem blk_new_at (W : World) (o : Obj) {k : Nat} (hk : W.heap.size = k) : (W.alloc o).heap[k]? = some o := by subst hk; exact blk_new W o
theorem own_setvar {w : World} {base g i : Nat} {e t : TypeId} {v : Value} {n : Nat} {xs : List Value} {cs : Array Value} (h : w.ownsRow base e 1 v n xs) (hk : w.heap[g]? = some (.cells cs t (0, 0))) (hne : e ≠ t) (u : Value) :
    (w.setCell ⟨g, i, none⟩ u).ownsRow base e 1 v n xs := by
  have hg : w.grownBy (w.setCell ⟨g, i, none⟩ u) (some g) := only_setCell (World.grownBy.refl w _) (.inl rfl) u
  refine h.kept hg ?_
  rcases h.2 with ⟨rfl, _⟩ | ⟨g', cap, cur, rfl, _, hh, _⟩
  · exact .inl rfl
  · refine .inr ?_
    intro he
    have : g' = g := by simpa [Value.ownBlock] using he
    subst this
    rw [hk] at hh
    injection hh with hh
    injection hh with _ h2
    exact hne h2.symm
theorem blk3_set {w : World} {g : Nat} {t : TypeId} {z0 z1 z2 : Value} (h : w.heap[g]? = some (.cells #[z0, z1, z2] t (0, 0))) (a b c : Value) :
    (((w.setCell ⟨g, 0, none⟩ a).setCell ⟨g, 1, none⟩ b).setCell ⟨g, 2, none⟩ c).heap[g]? = some (.cells #[a, b, c] t (0, 0)) := by
  have := blk_set (blk_set (blk_set h 0 a) 1 b) 2 c
  simpa using this
theorem own3_set {w : World} {base g : Nat} {e t : TypeId} {v : Value} {n : Nat} {xs : List Value} {z0 z1 z2 : Value} (h : w.ownsRow base e 1 v n xs) (hk : w.heap[g]? = some (.cells #[z0, z1, z2] t (0, 0))) (hne : e ≠ t) (a b c : Value) :
    (((w.setCell ⟨g, 0, none⟩ a).setCell ⟨g, 1, none⟩ b).setCell ⟨g, 2, none⟩ c).ownsRow base e 1 v n xs :=
  own_setvar (own_setvar (own_setvar h hk hne a) (blk_set hk 0 a) hne b) (blk_set (blk_set hk 0 a) 1 b) hne c
theorem blk4 {w : World} {g : Nat} {t : TypeId} {a0 a1 a2 a3 : Value} (h : w.heap[g]? = some (.cells #[a0, a1, a2, a3] t (0, 0))) :
    w.cell? ⟨g, 0, none⟩ = some a0 ∧ w.cell? ⟨g, 1, none⟩ = some a1 ∧ w.cell? ⟨g, 2, none⟩ = some a2 ∧ w.cell? ⟨g, 3, none⟩ = some a3 ∧ g < w.heap.size :=
  ⟨(blk_cells h 0).1, (blk_cells h 1).1, (blk_cells h 2).1, (blk_cells h 3).1, blk_lt h⟩
theorem blk7 {w : World} {g : Nat} {t : TypeId} {a0 a1 a2 a3 a4 a5 a6 : Value} (h : w.heap[g]? = some (.cells #[a0, a1, a2, a3, a4, a5, a6] t (0, 0))) :
    w.cell? ⟨g, 0, none⟩ = some a0 ∧ w.cell? ⟨g, 1, none⟩ = some a1 ∧ w.cell? ⟨g, 2, none⟩ = some a2 ∧ w.cell? ⟨g, 3, none⟩ = some a3 ∧ w.cell? ⟨g, 4, none⟩ = some a4 ∧ w.cell? ⟨g, 5, none⟩ = some a5 ∧ w.cell? ⟨g, 6, none⟩ = some a6 ∧ g < w.heap.size :=
  ⟨(blk_cells h 0).1, (blk_cells h 1).1, (blk_cells h 2).1, (blk_cells h 3).1, (blk_cells h 4).1, (blk_cells h 5).1, (blk_cells h 6).1, blk_lt h⟩
theorem blk10 {w : World} {g : Nat} {t : TypeId} {a0 a1 a2 a3 a4 a5 a6 a7 a8 a9 : Value} (h : w.heap[g]? = some (.cells #[a0, a1, a2, a3, a4, a5, a6, a7, a8, a9] t (0, 0))) :
    w.cell? ⟨g, 0, none⟩ = some a0 ∧ w.cell? ⟨g, 1, none⟩ = some a1 ∧ w.cell? ⟨g, 2, none⟩ = some a2 ∧ w.cell? ⟨g, 3, none⟩ = some a3 ∧ w.cell? ⟨g, 4, none⟩ = some a4 ∧ w.cell? ⟨g, 5, none⟩ = some a5 ∧ w.cell? ⟨g, 6, none⟩ = some a6 ∧ w.cell? ⟨g, 7, none⟩ = some a7 ∧ w.cell? ⟨g, 8, none⟩ = some a8 ∧ w.cell? ⟨g, 9, none⟩ = some a9 ∧ g < w.heap.size :=
  ⟨(blk_cells h 0).1, (blk_cells h 1).1, (blk_cells h 2).1, (blk_cells h 3).1, (blk_cells h 4).1, (blk_cells h 5).1, (blk_cells h 6).1, (blk_cells h 7).1, (blk_cells h 8).1, (blk_cells h 9).1, blk_lt h⟩
theorem sz_ub (ss : List ByteArray) (l : Int) (h : l ≤ 1048576) : szStrs ss l ≤ 1048576 := by
  unfold szStrs; split <;> omega
theorem strs_of_szl {W : World} {A : Option Addr} {n : Nat} {ss : List ByteArray} {l : Int} (hR : Reads W W.heap.size 1 A n (ss.map Value.string)) (hl1 : l ≤ 1048576) (hz : 0 ≤ szStrs ss l) : Strs W W.heap.size A n ss ∧ n ≤ 1048576 := by
  have hl : ss.length = n := by have := hR.1; simpa using this
  unfold szStrs at hz
  split at hz
  · omega
  · exact ⟨⟨hR, by omega, fun s hs => by have := tot_mem hs; omega⟩, by omega⟩
end Go.Proofs.YtdddglihomchfaaGreat
namespace Go.Proofs.YtdddglihomchfaaGreat
open Go.ChangeShapes Go.WideShapes Go.ChangeAt Go.RowKit
set_option linter.unusedVariables false
set_option maxHeartbeats 800000 in
theorem s_WithStrip (d f : Int) (B : Nat) (A : Option Addr) (n c : Nat) (ss : List ByteArray) (k : Int) (s : ByteArray) (w : World) (hS : Strs w B A n ss) (hB : B ≤ w.heap.size) (hs : s.size ≤ 16777216) :
    Calls Tryz.prog 188 #[.agg #[.int .i64 d, .int .i64 f, .slice A n c], .int .i64 k, .string s] w (FreshCardB w.heap.size d f (putAt d f ss k s).1 (putAt d f ss k s).2 w) := by
  have hn := hS.nb
  have hl := hS.len
  have hS2 := (hS.alloc hB (.cells #[.int .i64 d, .int .i64 f, .slice A n c] 34)).alloc (by simp; omega) (.cells #[.int .i64 0, .int .i64 0, .slice none 0 0] 34)
  have HL := Lib.hid hl
  cases hh : (cardOk d f ss && inB k 0 ((n : Int) - 1))
  · have HP : Hid (putAt d f ss k s = (ss, false)) := by unfold Hid putAt; rw [hl, hh]; rfl
    clear hl
    cases hc0 : cardOk d f ss
    · clear hh
      go_enter Tryz.func188, Tryz.ntmps188
      go_wp2_with (first | (go_at_call 77; refine (s_l05Copy _ _ B _ _ _ ss _ hS2 (by simp; omega)).mono ?_; rintro e w1 ⟨A1, c1, rfl, ho1, hb1⟩; obtain ⟨hcb, hfb⟩ := bcell hb1; have hz_w1_0 : w.heap.size < w1.heap.size := (by have hzz := hb1.size; (try simp at hzz); omega); have hy_w1_0 := Nat.le_of_lt hz_w1_0; have hz_w1_1 : w.heap.size + 1 < w1.heap.size := (by have hzz := hb1.size; (try simp at hzz); omega); have hy_w1_1 := Nat.le_of_lt hz_w1_1; have hS3 := hS2.below (hb1.mono (by simp; omega))) | (go_at_call 118; refine (s_CardOk _ _ _ _ _ ss _ ((hS3.alloc (by omega) _).more (by simp; omega))).mono ?_; rintro e w2 ⟨rfl, hb2⟩; obtain ⟨hcb2, hfb2⟩ := bcell hb2; have hz_w2_0 : w.heap.size < w2.heap.size := (by have hzz := hb2.size; (try simp at hzz); omega); have hy_w2_0 := Nat.le_of_lt hz_w2_0; have hz_w2_1 : w.heap.size + 1 < w2.heap.size := (by have hzz := hb2.size; (try simp at hzz); omega); have hy_w2_1 := Nat.le_of_lt hz_w2_1) | (go_at_call 65; refine (s_l01In _ _ _ _).mono ?_; rintro e w' ⟨rfl, rfl⟩))
      refine bodyPost_ret (v := .tuple #[.agg #[.int .i64 d, .int .i64 f, .slice A1 ss.length c1], .bool false]) (by simp [results, Tryz.results188, go_sem, *]) rfl ?_
      rw [HP.out]
      exact ⟨A1, c1, rfl, own_up ho1 upr (by first | exact Nat.le_refl _ | (simp; done) | omega | (simp; omega) | exact (‹_ ∧ _ ∧ Below _ _ _›).2.2.size), bel⟩
    · have hk : inB k 0 ((n : Int) - 1) = false := by simpa [hc0] using hh
      clear hh
      go_enter Tryz.func188, Tryz.ntmps188
      go_wp2_with (first | (go_at_call 77; refine (s_l05Copy _ _ B _ _ _ ss _ hS2 (by simp; omega)).mono ?_; rintro e w1 ⟨A1, c1, rfl, ho1, hb1⟩; obtain ⟨hcb, hfb⟩ := bcell hb1; have hz_w1_0 : w.heap.size < w1.heap.size := (by have hzz := hb1.size; (try simp at hzz); omega); have hy_w1_0 := Nat.le_of_lt hz_w1_0; have hz_w1_1 : w.heap.size + 1 < w1.heap.size := (by have hzz := hb1.size; (try simp at hzz); omega); have hy_w1_1 := Nat.le_of_lt hz_w1_1; have hS3 := hS2.below (hb1.mono (by simp; omega))) | (go_at_call 118; refine (s_CardOk _ _ _ _ _ ss _ ((hS3.alloc (by omega) _).more (by simp; omega))).mono ?_; rintro e w2 ⟨rfl, hb2⟩; obtain ⟨hcb2, hfb2⟩ := bcell hb2; have hz_w2_0 : w.heap.size < w2.heap.size := (by have hzz := hb2.size; (try simp at hzz); omega); have hy_w2_0 := Nat.le_of_lt hz_w2_0; have hz_w2_1 : w.heap.size + 1 < w2.heap.size := (by have hzz := hb2.size; (try simp at hzz); omega); have hy_w2_1 := Nat.le_of_lt hz_w2_1) | (go_at_call 65; refine (s_l01In _ _ _ _).mono ?_; rintro e w' ⟨rfl, rfl⟩))
      refine bodyPost_ret (v := .tuple #[.agg #[.int .i64 d, .int .i64 f, .slice A1 ss.length c1], .bool false]) (by simp [results, Tryz.results188, go_sem, *]) rfl ?_
      rw [HP.out]
      exact ⟨A1, c1, rfl, own_up ho1 upr (by first | exact Nat.le_refl _ | (simp; done) | omega | (simp; omega) | exact (‹_ ∧ _ ∧ Below _ _ _›).2.2.size), bel⟩
  · obtain ⟨hck, hk⟩ : cardOk d f ss = true ∧ inB k 0 ((n : Int) - 1) = true := by simpa using hh
    obtain ⟨hk0, hk1⟩ := inB_iff.1 hk
    obtain ⟨K, rfl⟩ := Int.eq_ofNat_of_zero_le hk0
    have hKn : K < n := by omega
    have hsb : ∀ x ∈ ss.set K s, x.size ≤ 16777216 := by
      intro x hx
      rcases List.mem_or_eq_of_mem_set hx with h | h
      · exact hS.sb x h
      · rw [h]; exact hs
    have HPY : Hid (cardOk d f (ss.set K s) = true → putAt d f ss K s = (ss.set K s, true)) := by
      intro h; unfold putAt; rw [hl, hh]; simp [h]
    have HPN : Hid (cardOk d f (ss.set K s) = false → putAt d f ss K s = (ss, false)) := by
      intro h; unfold putAt; rw [hl, hh]; simp [h]
    clear hl hh
    have tok1 : True := trivial
    go_enter Tryz.func188, Tryz.ntmps188
    go_wp2_with (first | (go_at_call 77; refine (s_l05Copy _ _ B _ _ _ ss _ hS2 (by simp; omega)).mono ?_; rintro e w1 ⟨A1, c1, rfl, ho1, hb1⟩; obtain ⟨hcb, hfb⟩ := bcell hb1; have hz_w1_0 : w.heap.size < w1.heap.size := (by have hzz := hb1.size; (try simp at hzz); omega); have hy_w1_0 := Nat.le_of_lt hz_w1_0; have hz_w1_1 : w.heap.size + 1 < w1.heap.size := (by have hzz := hb1.size; (try simp at hzz); omega); have hy_w1_1 := Nat.le_of_lt hz_w1_1; have hS3 := hS2.below (hb1.mono (by simp; omega)); have hKl : K < ss.length := (by have := HL.out; omega); obtain ⟨g, cap, hv, hbg, hglt⟩ := ho1.form (by omega); (have hA : A1 = some ⟨g, 0, none⟩ := (by injection hv)); subst hA; clear hv; have hge_g : w.heap.size + 2 ≤ g := (by have hzz := hbg; (try simp at hzz); omega); have hne_g_0 : g ≠ w.heap.size := (by have hzz := hbg; (try simp at hzz); omega); have hne2_g_0 := Ne.symm hne_g_0; have hne_g_1 : g ≠ w.heap.size + 1 := (by have hzz := hbg; (try simp at hzz); omega); have hne2_g_1 := Ne.symm hne_g_1) | (go_at_call 118; have _t := tok1; refine (s_CardOk _ _ _ _ _ ss _ ((hS3.alloc (by omega) _).more (by simp; omega))).mono ?_; rintro e w2 ⟨rfl, hb2⟩; obtain ⟨hcb2, hfb2⟩ := bcell hb2; have hz_w2_0 : w.heap.size < w2.heap.size := (by have hzz := hb2.size; (try simp at hzz); omega); have hy_w2_0 := Nat.le_of_lt hz_w2_0; have hz_w2_1 : w.heap.size + 1 < w2.heap.size := (by have hzz := hb2.size; (try simp at hzz); omega); have hy_w2_1 := Nat.le_of_lt hz_w2_1; have ho2 := own_below (ho1.alloc _) hb2; obtain ⟨u1, hc1⟩ := own_cell ho1 (j := K) hKl; have hf1 := ho1.frozenAt K; have hgle : g ≤ w1.heap.size := Nat.le_of_lt hglt; have hzz2 : w1.heap.size < w2.heap.size := (by have hq := hb2.size; simp at hq; omega); clear _t tok1) | (go_at_call 65; refine (s_l01In _ _ _ _).mono ?_; rintro e w' ⟨rfl, rfl⟩))
    have ho3 := (ho2.stored K (.string s)).1
    rw [set_map] at ho3
    have hsz3 : (w2.setCell ⟨g, K, none⟩ (.string s)).heap.size = w2.heap.size := by simp [World.setCell]
    have hT3 : Strs (w2.setCell ⟨g, K, none⟩ (.string s)) w2.heap.size (some ⟨g, 0, none⟩) ss.length (ss.set K s) := by
      have h := strs_of_own ho3 (by have := HL.out; omega) hsb
      rw [hsz3] at h; exact h
    have hS4 : Strs (w2.setCell ⟨g, K, none⟩ (.string s)) B A n ss := ((hS3.alloc (by omega) _).below (hb2.mono (by simp; omega))).setCell (by have := hb1.size; simp at this; show B ≤ g; simp at hbg; omega) _
    have hlen : (ss.set K s).length = ss.length := List.length_set
    have HLEN := Lib.hid hlen
    clear hlen hsz3
    cases hcs : cardOk d f (ss.set K s)
    · have HP := Lib.hid (HPN.out hcs)
      refine (s_CardOk _ _ _ _ _ (ss.set K s) _ (hT3.more (by simp [World.setCell]))).mono ?_
      rintro e w3 ⟨rfl, hb4⟩
      obtain ⟨hcb4, hfb4⟩ := bcell hb4
      have hz_w3_0 : w.heap.size < w3.heap.size := (by have hzz := hb4.size; (try simp at hzz); omega); have hy_w3_0 := Nat.le_of_lt hz_w3_0; have hz_w3_1 : w.heap.size + 1 < w3.heap.size := (by have hzz := hb4.size; (try simp at hzz); omega); have hy_w3_1 := Nat.le_of_lt hz_w3_1
      go_wp2_with (first | (go_at_call 77; refine (s_l05Copy _ _ B _ _ _ ss _ (hS4.below (hb4.mono (by simp [World.setCell]; omega))) (by omega)).mono ?_; rintro e w4 ⟨A4, c4, rfl, ho5, hb5⟩; obtain ⟨hcb5, hfb5⟩ := bcell hb5; have hz_w4_0 : w.heap.size < w4.heap.size := (by have hzz := hb5.size; (try simp at hzz); omega); have hy_w4_0 := Nat.le_of_lt hz_w4_0; have hz_w4_1 : w.heap.size + 1 < w4.heap.size := (by have hzz := hb5.size; (try simp at hzz); omega); have hy_w4_1 := Nat.le_of_lt hz_w4_1))
      refine bodyPost_ret (v := .tuple #[.agg #[.int .i64 d, .int .i64 f, .slice A4 ss.length c4], .bool false]) (by simp [results, Tryz.results188, go_sem, *]) rfl ?_
      rw [HP.out]
      exact ⟨A4, c4, rfl, own_up ho5 upr (by first | exact Nat.le_refl _ | (simp; done) | omega | (simp; omega) | exact (‹_ ∧ _ ∧ Below _ _ _›).2.2.size), bel⟩
    · have HP := Lib.hid (HPY.out hcs)
      refine (s_CardOk _ _ _ _ _ (ss.set K s) _ (hT3.more (by simp [World.setCell]))).mono ?_
      rintro e w3 ⟨rfl, hb4⟩
      obtain ⟨hcb4, hfb4⟩ := bcell hb4
      have hz_w3_0 : w.heap.size < w3.heap.size := (by have hzz := hb4.size; (try simp at hzz); omega); have hy_w3_0 := Nat.le_of_lt hz_w3_0; have hz_w3_1 : w.heap.size + 1 < w3.heap.size := (by have hzz := hb4.size; (try simp at hzz); omega); have hy_w3_1 := Nat.le_of_lt hz_w3_1
      have ho4 := own_below ho3 hb4
      go_wp2
      refine bodyPost_ret (v := .tuple #[.agg #[.int .i64 d, .int .i64 f, .slice (some ⟨g, 0, none⟩) ss.length c1], .bool true]) (by simp [results, Tryz.results188, go_sem, *]) rfl ?_
      rw [HP.out]
      unfold FreshCardB
      dsimp only
      rw [HLEN.out]
      exact ⟨_, c1, rfl, own_up ho4 upr (by first | exact Nat.le_refl _ | (simp; done) | omega | (simp; omega) | exact (‹_ ∧ _ ∧ Below _ _ _›).2.2.size), bel⟩
end Go.Proofs.YtdddglihomchfaaGreat
namespace Go.Proofs.YtdddglihomchfaaGreat
open Go.ChangeShapes Go.WideShapes Go.ChangeAt Go.RowKit
set_option linter.unusedVariables false
set_option maxRecDepth 10000
def mirrorRes (d f : Int) (ss : List ByteArray) : Int × Int × List ByteArray := if cardOk d f ss = true then (d, f, ss.reverse) else (0, 0, [])
end Go.Proofs.YtdddglihomchfaaGreat
namespace Go.Proofs.YtdddglihomchfaaGreat
open Go.ChangeShapes Go.WideShapes Go.ChangeAt Go.RowKit
set_option linter.unusedVariables false
set_option maxRecDepth 10000
section
variable {α : Type} {f : α → List Value} {k : Nat}
theorem flat_len (hf : ∀ x, (f x).length = k) (l : List α) : (l.flatMap f).length = l.length * k := by
  induction l with
  | nil => simp
  | cons x l ih => rw [List.flatMap_cons, List.length_append, hf, ih, List.length_cons, Nat.add_mul, Nat.one_mul, Nat.add_comm]
theorem flat_get (hf : ∀ x, (f x).length = k) (l : List α) (i j : Nat) (hi : i < l.length) (hj : j < k) : (l.flatMap f)[i * k + j]? = (f l[i])[j]? := by
  induction l generalizing i with
  | nil => simp at hi
  | cons x l ih =>
    rw [List.flatMap_cons]
    cases i with
    | zero => rw [List.getElem?_append_left (by rw [hf]; omega)]; simp
    | succ i =>
      rw [List.getElem?_append_right (by rw [hf, Nat.add_mul]; omega), hf]
      rw [show (i + 1) * k + j - k = i * k + j by rw [Nat.add_mul]; omega]
      rw [ih i (by simpa using hi)]; simp
theorem flat_snoc (l : List α) (x : α) : (l ++ [x]).flatMap f = l.flatMap f ++ f x := by simp
end
theorem add_next (a : Addr) (m j : Nat) (hj : 0 < j) : a.add (m + j) = ⟨(a.add m).block, (a.add m).off + j, none⟩ := by
  unfold Addr.add
  rw [if_neg (by omega)]
  by_cases h : m = 0
  · subst h; simp
  · rw [if_neg h]; simp [Nat.add_assoc]
theorem keep_ofP {B : Nat} {a W : World} (h : Below B a W) : (∀ p : Addr, p.block < B → W.cell? p = a.cell? p) ∧ (∀ p : Addr, p.block < B → W.frozen? p = a.frozen? p) ∧ Below B a W :=
  ⟨fun _ hb => h.cell hb, fun _ hb => h.frozen hb, h⟩
theorem own_cellk {w : World} {base size : Nat} {e : TypeId} {g n c : Nat} {xs : List Value} (h : w.ownsRow base e size (.slice (some ⟨g, 0, none⟩) n c) n xs) (j : Nat) (hj : j < n * size) : ∃ u, w.cell? ⟨g, j, none⟩ = some u := by
  have hl := h.1
  rw [h.cellAt j hj, List.getElem?_eq_getElem (by omega)]
  exact ⟨_, rfl⟩
def reps (zs : List Value) (n : Nat) : List Value := (List.replicate n zs).flatten
theorem reps_len (zs : List Value) (n : Nat) : (reps zs n).length = n * zs.length := by simp [reps]
theorem reps_succ (zs : List Value) (n : Nat) : reps zs (n + 1) = zs ++ reps zs n := by simp [reps, List.replicate_succ]
theorem reps_get (zs : List Value) (n i : Nat) (hi : i < n * zs.length) : (reps zs n)[i]? = zs[i % zs.length]? := by
  induction n generalizing i with
  | zero => omega
  | succ n ih =>
    rw [reps_succ]
    by_cases h : i < zs.length
    · rw [List.getElem?_append_left h, Nat.mod_eq_of_lt h]
    · rw [List.getElem?_append_right (by omega), ih (i - zs.length) (by rw [Nat.add_mul] at hi; omega)]
      congr 1
      rw [Nat.mod_eq_sub_mod (a := i) (by omega)]
theorem made_reps (zs : List Value) (n : Nat) (hz : 0 < zs.length) : (madeCells zs.toArray (n * zs.length)).toList = reps zs n := by
  apply List.ext_getElem?
  intro i
  by_cases h : i < n * zs.length
  · rw [reps_get zs n i h]
    have hm : i % zs.length < zs.length := Nat.mod_lt _ hz
    simp [madeCells, h, hm]
  · rw [List.getElem?_eq_none (by simp [madeCells]; omega), List.getElem?_eq_none (by rw [reps_len]; omega)]
theorem set3 (A C : List Value) (p : Nat) (hp : A.length = p) (z0 z1 z2 c0 c1 c2 : Value) : ((((A ++ ([z0, z1, z2] ++ C)).set (p) c0).set (p + 1) c1).set (p + 2) c2) = A ++ ([c0, c1, c2] ++ C) := by
  subst hp
  induction A with
  | nil => rfl
  | cons a A ih =>
    simp only [List.cons_append, List.length_cons, Nat.add_right_comm _ 1, List.set_cons_succ]
    exact congrArg (a :: ·) (by simp)
theorem set7 (A C : List Value) (p : Nat) (hp : A.length = p) (z0 z1 z2 z3 z4 z5 z6 c0 c1 c2 c3 c4 c5 c6 : Value) : ((((((((A ++ ([z0, z1, z2, z3, z4, z5, z6] ++ C)).set (p) c0).set (p + 1) c1).set (p + 2) c2).set (p + 3) c3).set (p + 4) c4).set (p + 5) c5).set (p + 6) c6) = A ++ ([c0, c1, c2, c3, c4, c5, c6] ++ C) := by
  subst hp
  induction A with
  | nil => rfl
  | cons a A ih =>
    simp only [List.cons_append, List.length_cons, Nat.add_right_comm _ 1, List.set_cons_succ]
    exact congrArg (a :: ·) (by simp)
structure PBox where
  (F L T : Int)
def boxCells (s : PBox) : List Value := [.int .i64 s.F, .int .i64 s.L, .int .i64 s.T]
structure Boxes (w : World) (B : Nat) (A : Option Addr) (n : Nat) (l : List PBox) : Prop where
  rd : Reads w B 3 A n (l.flatMap boxCells)
  nb : n ≤ 16777216
section
variable {w w' : World} {B B' n : Nat} {A : Option Addr} {l : List PBox}
end
structure PStep where
  (K F L T I : Int)
  (b a : ByteArray)
def stepCells (s : PStep) : List Value := [.int .i64 s.K, .int .i64 s.F, .int .i64 s.L, .int .i64 s.T, .int .i64 s.I, .string s.b, .string s.a]
theorem stepCells_len (s : PStep) : (stepCells s).length = 7 := rfl
structure Steps (w : World) (B : Nat) (A : Option Addr) (n : Nat) (l : List PStep) : Prop where
  rd : Reads w B 7 A n (l.flatMap stepCells)
  nb : n ≤ 16777216
  sb : ∀ s ∈ l, s.b.size ≤ 16777216 ∧ s.a.size ≤ 16777216
section
variable {w w' : World} {B B' n : Nat} {A : Option Addr} {l : List PStep}
theorem Steps.len (h : Steps w B A n l) : l.length = n := by
  have := h.rd.1; rw [flat_len stepCells_len] at this; omega
theorem Steps.below (h : Steps w B A n l) (hb : Below B w w') : Steps w' B A n l := ⟨h.rd.below hb, h.nb, h.sb⟩
theorem Steps.alloc (h : Steps w B A n l) (hB : B ≤ w.heap.size) (o : Obj) : Steps (w.alloc o) B A n l := ⟨h.rd.alloc hB o, h.nb, h.sb⟩
theorem stepCells_at {w : World} {B n : Nat} {A : Option Addr} {l : List PStep} {k : Nat} (hR : Reads w B 7 A n (l.flatMap stepCells)) (hl : l.length = n) (hk : k < n) : ∃ (hk' : k < l.length) (ad : Addr), A = some ad ∧ ad.block < B ∧ w.cell? (ad.add (k * 7)) = some (.int .i64 l[k].K) ∧ w.cell? ⟨(ad.add (k * 7)).block, (ad.add (k * 7)).off + 1, none⟩ = some (.int .i64 l[k].F) ∧ w.cell? ⟨(ad.add (k * 7)).block, (ad.add (k * 7)).off + 2, none⟩ = some (.int .i64 l[k].L) ∧ w.cell? ⟨(ad.add (k * 7)).block, (ad.add (k * 7)).off + 3, none⟩ = some (.int .i64 l[k].T) ∧ w.cell? ⟨(ad.add (k * 7)).block, (ad.add (k * 7)).off + 4, none⟩ = some (.int .i64 l[k].I) ∧ w.cell? ⟨(ad.add (k * 7)).block, (ad.add (k * 7)).off + 5, none⟩ = some (.string l[k].b) ∧ w.cell? ⟨(ad.add (k * 7)).block, (ad.add (k * 7)).off + 6, none⟩ = some (.string l[k].a) := by
  have hk' : k < l.length := by omega
  obtain ⟨ad, e, hb, hc⟩ := hR.2 (by omega)
  have hg := fun j hj => flat_get stepCells_len l k j hk' hj
  exact ⟨hk', ad, e, hb, hc _ _ (hg 0 (by omega)), by rw [← add_next _ _ _ (by omega)]; exact hc _ _ (hg 1 (by omega)), by rw [← add_next _ _ _ (by omega)]; exact hc _ _ (hg 2 (by omega)), by rw [← add_next _ _ _ (by omega)]; exact hc _ _ (hg 3 (by omega)), by rw [← add_next _ _ _ (by omega)]; exact hc _ _ (hg 4 (by omega)), by rw [← add_next _ _ _ (by omega)]; exact hc _ _ (hg 5 (by omega)), by rw [← add_next _ _ _ (by omega)]; exact hc _ _ (hg 6 (by omega))⟩
theorem Steps.at_ {k : Nat} (h : Steps w B A n l) (hk : k < n) : ∃ (hk' : k < l.length) (ad : Addr), A = some ad ∧ ad.block < B ∧ w.cell? (ad.add (k * 7)) = some (.int .i64 l[k].K) ∧ w.cell? ⟨(ad.add (k * 7)).block, (ad.add (k * 7)).off + 1, none⟩ = some (.int .i64 l[k].F) ∧ w.cell? ⟨(ad.add (k * 7)).block, (ad.add (k * 7)).off + 2, none⟩ = some (.int .i64 l[k].L) ∧ w.cell? ⟨(ad.add (k * 7)).block, (ad.add (k * 7)).off + 3, none⟩ = some (.int .i64 l[k].T) ∧ w.cell? ⟨(ad.add (k * 7)).block, (ad.add (k * 7)).off + 4, none⟩ = some (.int .i64 l[k].I) ∧ w.cell? ⟨(ad.add (k * 7)).block, (ad.add (k * 7)).off + 5, none⟩ = some (.string l[k].b) ∧ w.cell? ⟨(ad.add (k * 7)).block, (ad.add (k * 7)).off + 6, none⟩ = some (.string l[k].a) ∧ l[k].b.size ≤ 16777216 ∧ l[k].a.size ≤ 16777216 := by
  have hl := h.len
  have hk' : k < l.length := by omega
  obtain ⟨ad, e, hb, hc⟩ := h.rd.2 (by omega)
  have hg := fun j hj => flat_get stepCells_len l k j hk' hj
  have hs := h.sb _ (List.getElem_mem hk')
  exact ⟨hk', ad, e, hb, hc _ _ (hg 0 (by omega)), by rw [← add_next _ _ _ (by omega)]; exact hc _ _ (hg 1 (by omega)), by rw [← add_next _ _ _ (by omega)]; exact hc _ _ (hg 2 (by omega)), by rw [← add_next _ _ _ (by omega)]; exact hc _ _ (hg 3 (by omega)), by rw [← add_next _ _ _ (by omega)]; exact hc _ _ (hg 4 (by omega)), by rw [← add_next _ _ _ (by omega)]; exact hc _ _ (hg 5 (by omega)), by rw [← add_next _ _ _ (by omega)]; exact hc _ _ (hg 6 (by omega)), hs.1, hs.2⟩
end
structure PPaper where
  (k g s : Int)
def paperCells (s : PPaper) : List Value := [.int .i64 s.k, .int .i64 s.g, .int .i64 s.s]
theorem paperCells_len (s : PPaper) : (paperCells s).length = 3 := rfl
structure Papers (w : World) (B : Nat) (A : Option Addr) (n : Nat) (l : List PPaper) : Prop where
  rd : Reads w B 3 A n (l.flatMap paperCells)
  nb : n ≤ 16777216
section
variable {w w' : World} {B B' n : Nat} {A : Option Addr} {l : List PPaper}
theorem Papers.len (h : Papers w B A n l) : l.length = n := by
  have := h.rd.1; rw [flat_len paperCells_len] at this; omega
theorem Papers.below (h : Papers w B A n l) (hb : Below B w w') : Papers w' B A n l := ⟨h.rd.below hb, h.nb⟩
theorem Papers.alloc (h : Papers w B A n l) (hB : B ≤ w.heap.size) (o : Obj) : Papers (w.alloc o) B A n l := ⟨h.rd.alloc hB o, h.nb⟩
theorem paperCells_at {w : World} {B n : Nat} {A : Option Addr} {l : List PPaper} {k : Nat} (hR : Reads w B 3 A n (l.flatMap paperCells)) (hl : l.length = n) (hk : k < n) : ∃ (hk' : k < l.length) (ad : Addr), A = some ad ∧ ad.block < B ∧ w.cell? (ad.add (k * 3)) = some (.int .i64 l[k].k) ∧ w.cell? ⟨(ad.add (k * 3)).block, (ad.add (k * 3)).off + 1, none⟩ = some (.int .i64 l[k].g) ∧ w.cell? ⟨(ad.add (k * 3)).block, (ad.add (k * 3)).off + 2, none⟩ = some (.int .i64 l[k].s) := by
  have hk' : k < l.length := by omega
  obtain ⟨ad, e, hb, hc⟩ := hR.2 (by omega)
  have hg := fun j hj => flat_get paperCells_len l k j hk' hj
  exact ⟨hk', ad, e, hb, hc _ _ (hg 0 (by omega)), by rw [← add_next _ _ _ (by omega)]; exact hc _ _ (hg 1 (by omega)), by rw [← add_next _ _ _ (by omega)]; exact hc _ _ (hg 2 (by omega))⟩
theorem Papers.at_ {k : Nat} (h : Papers w B A n l) (hk : k < n) : ∃ (hk' : k < l.length) (ad : Addr), A = some ad ∧ ad.block < B ∧ w.cell? (ad.add (k * 3)) = some (.int .i64 l[k].k) ∧ w.cell? ⟨(ad.add (k * 3)).block, (ad.add (k * 3)).off + 1, none⟩ = some (.int .i64 l[k].g) ∧ w.cell? ⟨(ad.add (k * 3)).block, (ad.add (k * 3)).off + 2, none⟩ = some (.int .i64 l[k].s) := by
  have hl := h.len
  have hk' : k < l.length := by omega
  obtain ⟨ad, e, hb, hc⟩ := h.rd.2 (by omega)
  have hg := fun j hj => flat_get paperCells_len l k j hk' hj
  exact ⟨hk', ad, e, hb, hc _ _ (hg 0 (by omega)), by rw [← add_next _ _ _ (by omega)]; exact hc _ _ (hg 1 (by omega)), by rw [← add_next _ _ _ (by omega)]; exact hc _ _ (hg 2 (by omega))⟩
end
end Go.Proofs.YtdddglihomchfaaGreat
namespace Go.Proofs.YtdddglihomchfaaGreat
open Go.ChangeShapes Go.WideShapes Go.ChangeAt Go.RowKit
set_option linter.unusedVariables false
set_option maxRecDepth 10000
section
variable {H : Type} {enc : TypeId × Value → H} {P : Program}
theorem post_of_below {f : Func} {s : ChangeSpec} {apart fresh handsOn again : Bool} {W W' : World} {args : Array Value} {v : Value} {ds gs : List (DataW H)} {before pa pv : List MemPlace}
    (hW : DataW.Whole enc P f.params.toList s.vars apart W args.toList ds gs before)
    (hres : ∀ (b : Nat) (sp : Nat → Bool) (hd : Bool), DataW.TrodAll enc P W' b sp hd f.resultTypes.toList (v.resultList f.resultTypes.size) (s.fn H (ds ++ gs)).results [])
    (hargs : ∀ sp : Nat → Bool, (∀ p ∈ before, sp p.block = true) → DataW.TrodAll enc P W' 0 sp true f.params.toList args.toList (s.fn H (ds ++ gs)).args pa)
    (hvars : ∀ sp : Nat → Bool, (∀ p ∈ before, sp p.block = true) → DataW.TrodVars enc P W' sp s.vars (s.fn H (ds ++ gs)).vars pv)
    (hps : before = pa ++ pv) (hb : Below W.heap.size W W')
    (hok : ∀ (j : Nat) (t : TypeId) (r : Value), f.resultTypes[j]? = some t → (v.resultList f.resultTypes.size)[j]? = some r → Value.okWide P W' .any 0 t r) :
    s.post enc P f apart fresh handsOn again W args v W' := by
  have hlt : ∀ p ∈ before, p.block < W.heap.size := fun p hp => hW.lt p hp
  have hold : ∀ p ∈ before, (fun b => decide (b < W.heap.size)) p.block = true := fun p hp => by simpa using hlt p hp
  refine ⟨ds, gs, before, [], pa, pv, hW, hres _ _ _, hargs _ hold, hvars _ hold, World.keptBut_mono (fun p hp => ⟨hp, ?_⟩) (hb.frame (· ∈ before)), fun _ => ?_⟩
  · rw [hps, List.mem_append] at hp
    exact Or.inr hp
  · obtain ⟨_, _, _, _, _, hz, hn⟩ := hW
    refine ⟨hok, _, _, ([] ++ pa) ++ pv, ⟨[] ++ pa, pv, trodAll_append (hargs _ (fun _ _ => rfl)) (hres _ _ _), hvars _ (fun _ _ => rfl), rfl, ?_, ?_⟩, ?_⟩
    · intro b off hp
      have hin : MemPlace.cell b off ∈ before := by rw [hps]; simpa using hp
      rw [hb.frozen (hlt _ hin)]
      exact hz b off hin
    · intro ha
      have := hn ha
      rw [hps] at this
      simpa using this
    · intro p hp _
      rw [hps]
      simpa using hp
end
theorem own0 : ownKnob Tryz.prog.godebug = none := by kernel_rfl
theorem laid0 : laidOutB Tryz.prog = true := by kernel_rfl
theorem trodAll_stays {H : Type} {enc : TypeId × Value → H} {W W' : World} (hb : Below W.heap.size W W') {sp : Nat → Bool} :
    ∀ (ts : List TypeId) (vs : List Value) (ds : List (DataW H)) (ps : List MemPlace), (∀ t ∈ ts, Tryz.prog.readableRec t = true ∧ t < Tryz.prog.types.size) →
      DataW.TrodAll enc Tryz.prog W 0 (fun _ => true) true ts vs ds ps → (∀ p ∈ ps, p.block < W.heap.size) → (∀ p ∈ ps, sp p.block = true) → DataW.TrodAll enc Tryz.prog W' 0 sp true ts vs ds ps
  | [], vs, ds, ps, _, h, _, _ => by
    cases vs <;> cases ds <;> simp [DataW.TrodAll] at h ⊢
    exact h
  | t :: ts, vs, ds, ps, hr, h, hlt, hsp => by
    obtain ⟨v, vs', d, ds', p, q, rfl, rfl, rfl, h1, h2⟩ := trodAll_cons h
    have hr0 := hr t (List.mem_cons_self)
    exact ⟨p, q, WideElems.Trod_stays laid0 hr0.1 hr0.2 h1 (fun x hx => hb.same (hlt x (List.mem_append_left _ hx))) (fun x hx => hsp x (List.mem_append_left _ hx)),
      trodAll_stays hb ts vs' ds' q (fun t' ht => hr t' (List.mem_cons_of_mem _ ht)) h2 (fun x hx => hlt x (List.mem_append_right _ hx)) (fun x hx => hsp x (List.mem_append_right _ hx)), rfl⟩
theorem post_law {H : Type} {enc : TypeId × Value → H} {f : Func} {s : ChangeSpec} {W W' : World} {args : Array Value} {ds gs : List (DataW H)} {before : List MemPlace}
    (hW : DataW.Whole enc Tryz.prog f.params.toList s.vars false W args.toList ds gs before) (hv : s.vars = []) (hr : ∀ t ∈ f.params.toList, Tryz.prog.readableRec t = true ∧ t < Tryz.prog.types.size)
    (hf : f.resultTypes = #[4]) (hfn : ds.length = f.params.size → s.fn H (ds ++ []) = { results := [.lit (.bool true)], args := ds }) (hb : Below W.heap.size W W') :
    s.post enc Tryz.prog f false true false false W args (.bool true) W' := by
  have hW' := hW
  obtain ⟨p, q, hA0, hV, hbe, hfz, hnd⟩ := hW
  rw [hv] at hV
  obtain ⟨rfl, rfl⟩ := trodVars_none hV
  simp only [List.append_nil] at hbe
  subst hbe
  have hlen : ds.length = f.params.size := by
    have : ∀ (ts : List TypeId) (vs : List Value) (ds : List (DataW H)) (ps : List MemPlace), DataW.TrodAll enc Tryz.prog W 0 (fun _ => true) true ts vs ds ps → ds.length = ts.length := by
      intro ts
      induction ts with
      | nil => intro vs ds ps h; cases vs <;> cases ds <;> simp [DataW.TrodAll] at h ⊢
      | cons t ts ih =>
        intro vs ds ps h
        obtain ⟨v, vs', d, ds', p, q, rfl, rfl, rfl, h1, h2⟩ := trodAll_cons h
        simp [ih _ _ _ h2]
    have h := this _ _ _ _ hA0
    simpa using h
  have hfn' := hfn hlen
  refine post_of_below (pa := before) (pv := []) (gs := []) hW' ?_ ?_ ?_ (by simp) hb ?_
  · intro b sp hd
    rw [hfn', hf]
    exact trodAll_mk1 (shut_bool Tryz.underlying4 true)
  · intro sp hsp
    rw [hfn']
    exact trodAll_stays hb _ _ _ _ hr hA0 (fun x hx => hW'.lt x hx) hsp
  · intro sp _
    rw [hv, hfn']
    rfl
  · intro j t r ht hr2
    rw [hf] at ht hr2
    have hj : j = 0 := by
      rcases Nat.eq_zero_or_pos j with h | h
      · exact h
      · rw [Array.getElem?_eq_none (by simp; omega)] at ht; cases ht
    subst hj
    simp at ht hr2
    subst ht
    have : r = .bool true := by
      simp [Value.resultList] at hr2; exact hr2.symm
    subst this
    exact okWide_bool_mk Tryz.underlying4 true
end Go.Proofs.YtdddglihomchfaaGreat
namespace Go.Proofs.YtdddglihomchfaaGreat
open Go.ChangeShapes Go.WideShapes Go.ChangeAt Go.RowKit
set_option linter.unusedVariables false
set_option maxRecDepth 10000
theorem cells_str : Tryz.prog.cellsOf 9 = 1 := by kernel_rfl
theorem reads_strings {H : Type} {enc : TypeId × Value → H} {W : World} {n : Nat} {cs : List Value} {x : DataW H × List MemPlace} (h : DataW.trod enc Tryz.prog W 0 (fun _ => true) true n 22 cs = some x) :
    ∃ (A : Option Addr) (len c : Nat) (ss : List ByteArray), cs = [.slice A len c] ∧ Reads W W.heap.size 1 A len (ss.map Value.string) ∧ len ≤ maxLen ∧ ∀ s ∈ ss, s.size ≤ maxLen := by
  rcases open_strings Tryz.underlying22 Tryz.underlying9 cells_str h with ⟨hcs, _⟩ | ⟨a, len, cap, ss, hcs, _, hl, hm, hz, hx, hcell, hws⟩
  · exact ⟨none, 0, 0, [], hcs, Reads.none_, by unfold maxLen; omega, fun s hs => by cases hs⟩
  · refine ⟨some a, len, cap, ss.take len, hcs, ⟨?_, fun h0 => ⟨a, rfl, ?_, ?_⟩⟩, by omega, fun s hs => hws s (List.mem_of_mem_take hs)⟩
    · simp at hz
      simp [List.length_take]; omega
    · have h1 := hcell 0 (by simp at hz; omega)
      have h2 := World.block_lt_of_cell? W _ h1
      rwa [block_of_add] at h2
    · intro j u hu
      rw [List.getElem?_map] at hu
      by_cases hj : j < len
      · have h1 := hcell j (by simp at hz; omega)
        rw [h1]
        rw [List.getElem?_take, if_pos hj] at hu
        have hjl : j < ss.length := by simp at hz; omega
        rw [List.getElem?_eq_getElem hjl] at hu
        simp [List.getD, List.getElem?_eq_getElem hjl] at hu ⊢
        exact hu
      · rw [List.getElem?_take, if_neg hj] at hu
        cases hu
end Go.Proofs.YtdddglihomchfaaGreat
namespace Go.Proofs.YtdddglihomchfaaGreat
open Go.ChangeShapes Go.WideShapes Go.ChangeAt Go.RowKit
set_option linter.unusedVariables false
set_option maxRecDepth 10000
set_option maxHeartbeats 400000 in
theorem l_toBox (k a b : Int) (w : World) : Calls Tryz.prog 94 #[.agg #[.int .i64 k, .int .i64 a, .int .i64 b]] w fun e w' => e = .returned (.agg #[.int .i64 k, .int .i64 a, .int .i64 b]) ∧ Below w.heap.size w w' := by
  go_enter Tryz.func94, Tryz.ntmps94
  go_wp2
  refine bodyPost_ret (v := .agg #[.int .i64 k, .int .i64 a, .int .i64 b]) (by simp [results, Tryz.results94, go_sem]) rfl ?_
  exact ⟨rfl, bel⟩
end Go.Proofs.YtdddglihomchfaaGreat
namespace Go.Proofs.YtdddglihomchfaaGreat
open Go.ChangeShapes Go.WideShapes Go.ChangeAt Go.RowKit
set_option linter.unusedVariables false
set_option maxRecDepth 10000
set_option maxHeartbeats 1600000 in
theorem l_eqBox_same (F L T : Int) (w : World) : Calls Tryz.prog 195 #[.agg #[.int .i64 F, .int .i64 L, .int .i64 T], .agg #[.int .i64 F, .int .i64 L, .int .i64 T]] w fun e w' => e = .returned (.bool true) ∧ Below w.heap.size w w' := by
  go_enter Tryz.func195, Tryz.ntmps195
  go_wp2
  go_ret
  exact ⟨rfl, bel⟩
def mkBox (k : Int) : List Value := [.int .i64 (k), .int .i64 (k + 1), .int .i64 (k + 1 + 1)]
def marksBox (k : Int) (n : Nat) : List Value := (List.range n).flatMap fun (i : Nat) => mkBox (k + 3 * (i : Int))
end Go.Proofs.YtdddglihomchfaaGreat
namespace Go.Proofs.YtdddglihomchfaaGreat
open Go.ChangeShapes Go.WideShapes Go.ChangeAt Go.RowKit
set_option linter.unusedVariables false
set_option maxRecDepth 10000
def szStep (b a : ByteArray) (left : Int) : Int := if left - b.size < 0 then -1 else if left - b.size - a.size < 0 then -1 else left - b.size - a.size
theorem sz_ub_step (b a : ByteArray) (l : Int) (h : l ≤ 1048576) : szStep b a l ≤ 1048576 := by
  unfold szStep; split
  · omega
  · split <;> omega
theorem step_of_sz {b a : ByteArray} {l : Int} (hl1 : l ≤ 1048576) (hz : 0 ≤ szStep b a l) : b.size ≤ 1048576 ∧ a.size ≤ 1048576 := by
  unfold szStep at hz
  split at hz
  · omega
  · split at hz <;> omega
set_option maxHeartbeats 400000 in
theorem l_szStep (K F L T I : Int) (b a : ByteArray) (left : Int) (w : World) (hb : b.size ≤ 9223372036854775807) (ha : a.size ≤ 9223372036854775807) (h0 : -1 ≤ left) (h1 : left ≤ 1048576) :
    Calls Tryz.prog 32 #[.agg #[.int .i64 K, .int .i64 F, .int .i64 L, .int .i64 T, .int .i64 I, .string b, .string a], .int .i64 left] w fun e w' => e = .returned (.int .i64 (szStep b a left)) ∧ Below w.heap.size w w' := by
  by_cases h2 : left - b.size < 0
  · have HF : Hid (szStep b a left = -1) := by unfold Hid szStep; rw [if_pos h2]
    go_enter Tryz.func32, Tryz.ntmps32
    go_wp2
    go_ret
    exact ⟨ret_int HF.out.symm, bel⟩
  · by_cases h3 : left - b.size - a.size < 0
    · have HF : Hid (szStep b a left = -1) := by unfold Hid szStep; rw [if_neg h2, if_pos h3]
      go_enter Tryz.func32, Tryz.ntmps32
      go_wp2
      go_ret
      exact ⟨ret_int HF.out.symm, bel⟩
    · have HF : Hid (szStep b a left = left - b.size - a.size) := by unfold Hid szStep; rw [if_neg h2, if_neg h3]
      go_enter Tryz.func32, Tryz.ntmps32
      go_wp2
      go_ret
      exact ⟨ret_int HF.out.symm, bel⟩
set_option maxHeartbeats 800000 in
theorem l_toStep (K F L T I : Int) (b a : ByteArray) (w : World) : Calls Tryz.prog 34 #[.agg #[.int .i64 K, .int .i64 F, .int .i64 L, .int .i64 T, .int .i64 I, .string b, .string a]] w fun e w' => e = .returned (.agg #[.int .i64 K, .int .i64 F, .int .i64 L, .int .i64 T, .int .i64 I, .string b, .string a]) ∧ Below w.heap.size w w' := by
  go_enter Tryz.func34, Tryz.ntmps34
  go_wp2_with (go_at_call 94; refine (l_toBox _ _ _ _).mono ?_; rintro e w1 ⟨rfl, hb1⟩; obtain ⟨hcb, hfb⟩ := bcell hb1; have hz_w1_0 : w.heap.size < w1.heap.size := (by have hzz := hb1.size; (try simp at hzz); omega); have hy_w1_0 := Nat.le_of_lt hz_w1_0; have hz_w1_1 : w.heap.size + 1 < w1.heap.size := (by have hzz := hb1.size; (try simp at hzz); omega); have hy_w1_1 := Nat.le_of_lt hz_w1_1; have hz_w1_2 : w.heap.size + 1 + 1 < w1.heap.size := (by have hzz := hb1.size; (try simp at hzz); omega); have hy_w1_2 := Nat.le_of_lt hz_w1_2)
  refine bodyPost_ret (v := .agg #[.int .i64 K, .int .i64 F, .int .i64 L, .int .i64 T, .int .i64 I, .string b, .string a]) (by simp [results, Tryz.results34, go_sem, *]) rfl ?_
  exact ⟨rfl, (by repeat (first | (with_reducible exact Below.refl _ _) | (with_reducible assumption) | (with_reducible exact (‹_ ∧ _ ∧ Below _ _ _›).2.2) | (with_reducible refine below_drewN ?_ _) | (with_reducible refine Below.drew ?_) | ((with_reducible refine Below.alloc ?_ ?hsd _); (case hsd => (first | exact Nat.le_refl _ | (simp; done) | omega | (simp; omega) | exact (‹_ ∧ _ ∧ Below _ _ _›).2.2.size))) | ((with_reducible refine Below.setCell ?_ ?hsd _); (case hsd => (first | exact Nat.le_refl _ | (simp; done) | omega | (simp; omega) | exact (‹_ ∧ _ ∧ Below _ _ _›).2.2.size))) | ((with_reducible refine Below.trans ?_ (Below.mono (by with_reducible assumption) ?hsd)); (case hsd => (first | exact Nat.le_refl _ | (simp; done) | omega | (simp; omega) | exact (‹_ ∧ _ ∧ Below _ _ _›).2.2.size)))))⟩
theorem trod_field {H : Type} {enc : TypeId × Value → H} {P : Program} {w : World} {base : Nat} {spare : Nat → Bool} {held : Bool} {t : TypeId} {fs : Array Field} {fuel : Nat} {cs : List Value} {x : DataW H × List MemPlace}
    (ht : P.underlying t = some (.struct fs)) (h : DataW.trod enc P w base spare held fuel t cs = some x) (i : Nat) (f : Field) (hf : fs[i]? = some f) {c : Nat} (hc : P.cellsOf f.type = c) :
    ∃ n y, DataW.trod enc P w base spare held n f.type ((cs.drop f.offset).take c) = some y := by
  obtain ⟨xs, n, _, _, _, hlen, hg⟩ := DataW.trod_struct ht h
  have h1 := hg i f hf
  have hi : i < fs.size := (Array.getElem?_eq_some_iff.1 hf).1
  rw [List.getElem?_eq_getElem (by omega), hc] at h1
  exact ⟨n, _, h1⟩
theorem cells_int : Tryz.prog.cellsOf 3 = 1 := by kernel_rfl
theorem cells_lbox2 : Tryz.prog.cellsOf 58 = 3 := by kernel_rfl
theorem cells_lstep : Tryz.prog.cellsOf 60 = 7 := by kernel_rfl
theorem trod_step {H : Type} {enc : TypeId × Value → H} {W : World} {n : Nat} {c0 c1 c2 c3 c4 c5 c6 : Value} {x : DataW H × List MemPlace} (h : DataW.trod enc Tryz.prog W 0 (fun _ => true) true n 60 [c0, c1, c2, c3, c4, c5, c6] = some x) :
    ∃ (K F L T I : Int) (b a : ByteArray), [c0, c1, c2, c3, c4, c5, c6] = [.int .i64 K, .int .i64 F, .int .i64 L, .int .i64 T, .int .i64 I, .string b, .string a] ∧ b.size ≤ maxLen ∧ a.size ≤ maxLen := by
  obtain ⟨m0, y0, h0⟩ := trod_field Tryz.underlying60 h 0 _ rfl cells_int
  obtain ⟨m1, y1, h1⟩ := trod_field Tryz.underlying60 h 1 _ rfl cells_lbox2
  obtain ⟨m2, y2, h2⟩ := trod_field Tryz.underlying60 h 2 _ rfl cells_int
  obtain ⟨m3, y3, h3⟩ := trod_field Tryz.underlying60 h 3 _ rfl cells_str
  obtain ⟨m4, y4, h4⟩ := trod_field Tryz.underlying60 h 4 _ rfl cells_str
  obtain ⟨q0, z0, g0⟩ := trod_field Tryz.underlying58 h1 0 _ rfl cells_int
  obtain ⟨q1, z1, g1⟩ := trod_field Tryz.underlying58 h1 1 _ rfl cells_int
  obtain ⟨q2, z2, g2⟩ := trod_field Tryz.underlying58 h1 2 _ rfl cells_int
  obtain ⟨K, e0, _, _⟩ := DataW.trod_int Tryz.underlying3 h0
  obtain ⟨F, e1, _, _⟩ := DataW.trod_int Tryz.underlying3 g0
  obtain ⟨L, e2, _, _⟩ := DataW.trod_int Tryz.underlying3 g1
  obtain ⟨T, e3, _, _⟩ := DataW.trod_int Tryz.underlying3 g2
  obtain ⟨I, e4, _, _⟩ := DataW.trod_int Tryz.underlying3 h2
  obtain ⟨b, e5, _, hb⟩ := DataW.trod_string Tryz.underlying9 h3
  obtain ⟨a, e6, _, ha⟩ := DataW.trod_string Tryz.underlying9 h4
  simp at e0 e1 e2 e3 e4 e5 e6
  subst e0; subst e1; subst e2; subst e3; subst e4; subst e5; subst e6
  exact ⟨K, F, L, T, I, b, a, rfl, hb, ha⟩
end Go.Proofs.YtdddglihomchfaaGreat
namespace Go.Proofs.YtdddglihomchfaaGreat
open Go.ChangeShapes Go.WideShapes Go.ChangeAt Go.RowKit Go.Deep
set_option linter.unusedVariables false
set_option maxRecDepth 10000
theorem reads_rows {α : Type} {f : α → List Value} {k : Nat} (hf : ∀ x, (f x).length = k) (hk : 0 < k) {Q : α → Prop} {H : Type} {enc : TypeId × Value → H} {P : Program} {W : World} {t e : TypeId} {fuel : Nat} {cs : List Value} {x : DataW H × List MemPlace}
    (ht : P.underlying t = some (.slice e)) (hC : P.cellsOf e = k) (h : DataW.trod enc P W 0 (fun _ => true) true fuel t cs = some x)
    (hel : ∀ n cs' y, cs'.length = k → DataW.trod enc P W 0 (fun _ => true) true n e cs' = some y → ∃ b : α, cs' = f b ∧ Q b) :
    ∃ (A : Option Addr) (n c : Nat) (l : List α), cs = [.slice A n c] ∧ Reads W W.heap.size k A n (l.flatMap f) ∧ l.length = n ∧ n ≤ maxLen ∧ ∀ b ∈ l, Q b := by
  rcases open_slice ht h with ⟨hcs, _⟩ | ⟨a, len, cap, m, n, D, Pl, hcs, _, hl, hm, hmm, _, hi⟩
  · exact ⟨none, 0, 0, [], hcs, ⟨by simp, fun h0 => absurd h0 (by omega)⟩, rfl, by unfold maxLen; omega, fun b hb => by cases hb⟩
  · have hlm : len ≤ m := by rw [hmm]; simp; exact hl
    have hb : ∀ i, i < len → ∃ b : α, (∀ j, j < k → W.cell? (a.add (i * k + j)) = (f b)[j]?) ∧ Q b := by
      intro i hil
      obtain ⟨cs', hc, htr⟩ := hi i (by omega)
      rw [hC] at hc
      obtain ⟨_, hcl, hat⟩ := World.cells?_some hc
      obtain ⟨b, rfl, hq⟩ := hel _ _ _ hcl htr
      exact ⟨b, fun j hj => by rw [← add_of_add]; exact hat j hj, hq⟩
    have hlist : ∀ p, p ≤ len → ∃ l : List α, l.length = p ∧ (∀ i (hi : i < l.length), (∀ j, j < k → W.cell? (a.add (i * k + j)) = (f l[i])[j]?) ∧ Q l[i]) := by
      intro p
      induction p with
      | zero => intro _; exact ⟨[], rfl, fun i hi => by simp at hi⟩
      | succ p ih =>
        intro hp
        obtain ⟨l, hll, hlc⟩ := ih (by omega)
        obtain ⟨b, hbc, hq⟩ := hb p (by omega)
        refine ⟨l ++ [b], by simp [hll], fun i hi => ?_⟩
        by_cases hip : i < l.length
        · rw [List.getElem_append_left hip]; exact hlc i hip
        · have he : i = l.length := by simp at hi; omega
          subst he
          rw [List.getElem_append_right (Nat.le_refl _)]
          simp only [Nat.sub_self, List.getElem_cons_zero]
          rw [hll]; exact ⟨hbc, hq⟩
    obtain ⟨l, hll, hlc⟩ := hlist len (Nat.le_refl _)
    refine ⟨some a, len, cap, l, hcs, ⟨by rw [flat_len hf, hll], fun h0 => ⟨a, rfl, ?_, ?_⟩⟩, hll, by omega, fun b hb => ?_⟩
    · have h1 := (hlc 0 (by omega)).1 0 hk
      have hs : ((f (l[0]'(by omega)))[0]?) = some ((f (l[0]'(by omega)))[0]'(by rw [hf]; exact hk)) := List.getElem?_eq_getElem _
      rw [hs] at h1
      have h2 := World.block_lt_of_cell? W _ h1
      rwa [block_of_add] at h2
    · intro j u hu
      have hj : j < len * k := by
        have h1 := (List.getElem?_eq_some_iff.1 hu).1
        rw [flat_len hf, hll] at h1; exact h1
      have hi1 : j / k < l.length := by rw [hll]; exact Nat.div_lt_of_lt_mul (by rw [Nat.mul_comm]; exact hj)
      have hr : j % k < k := Nat.mod_lt _ hk
      have hjd : j = j / k * k + j % k := by rw [Nat.mul_comm]; exact (Nat.div_add_mod j k).symm
      rw [hjd] at hu ⊢
      rw [flat_get hf l _ _ hi1 hr] at hu
      rw [(hlc _ hi1).1 _ hr, hu]
    · obtain ⟨i, hi, rfl⟩ := List.mem_iff_getElem.1 hb
      exact (hlc i hi).2
end Go.Proofs.YtdddglihomchfaaGreat
namespace Go.Proofs.YtdddglihomchfaaGreat
open Go.ChangeShapes Go.WideShapes Go.ChangeAt Go.RowKit
set_option linter.unusedVariables false
set_option maxRecDepth 10000
section
variable {w w' : World} {base bg bx n m size size2 : Nat} {e e2 : TypeId} {v vg vx : Value} {xs : List Value}
theorem blk_markedk {g : Nat} {t : TypeId} {cs : Array Value} (h : w.heap[g]? = some (.cells cs t (0, 0))) (hg : w.grownBy w' v.ownBlock)
    (ho : w.ownsRow base e size v n xs) (hne : e ≠ t) : w'.heap[g]? = some (.cells cs t (0, 0)) := by
  refine (hg.block g (blk_lt h) ?_).trans h
  intro hv
  rcases ho.2 with ⟨rfl, _⟩ | ⟨g', cap, cur, rfl, _, hh, _⟩
  · simp [Value.ownBlock] at hv
  · have : g = g' := by simpa [Value.ownBlock] using hv
    subst this
    rw [h] at hh
    injection hh with hh
    injection hh with _ h2
    exact hne h2.symm
end
def szN (n : Nat) (left : Int) : Int := if left - n < 0 then -1 else left - n
end Go.Proofs.YtdddglihomchfaaGreat
namespace Go.Proofs.YtdddglihomchfaaGreat
open Go.ChangeShapes Go.WideShapes Go.ChangeAt Go.RowKit
set_option linter.unusedVariables false
set_option maxRecDepth 10000
def rowTys : List TypeId := [9
  , 65
  , 132
  , 118
  , 63
  , 3
  , 82
  ]
def boxAt (w : World) (k : Nat) : Prop := ∃ cs t fr, w.heap[k]? = some (.cells cs t fr) ∧ t ∉ rowTys
structure Within (lo hi : Nat) (w w' : World) : Prop where
  os : w'.os = w.os
  tape : w'.tape = w.tape
  output : w'.output = w.output
  size : w.heap.size ≤ w'.heap.size
  block : ∀ k, k < w.heap.size → (k < lo ∨ hi ≤ k ∨ boxAt w k) → w'.heap[k]? = w.heap[k]?
section
variable {lo hi lo' hi' : Nat} {w w' a b c : World}
theorem Within.refl (lo hi : Nat) (w : World) : Within lo hi w w := ⟨rfl, rfl, rfl, Nat.le_refl _, fun _ _ _ => rfl⟩
theorem Within.trans (h : Within lo hi a b) (k : Within lo hi b c) : Within lo hi a c :=
  ⟨k.os.trans h.os, k.tape.trans h.tape, k.output.trans h.output, Nat.le_trans h.size k.size, fun i hi h2 => by
    have h3 := h.block i hi h2
    refine (k.block i (Nat.lt_of_lt_of_le hi h.size) ?_).trans h3
    rcases h2 with h2 | h2 | ⟨cs, t, fr, h2, h4⟩
    · exact .inl h2
    · exact .inr (.inl h2)
    · exact .inr (.inr ⟨cs, t, fr, h3.trans h2, h4⟩)⟩
theorem Within.wide (h : Within lo hi a b) (h1 : lo' ≤ lo) (h2 : hi ≤ hi') : Within lo' hi' a b :=
  ⟨h.os, h.tape, h.output, h.size, fun i hi h3 => h.block i hi (by
    rcases h3 with h3 | h3 | h3
    · exact .inl (by omega)
    · exact .inr (.inl (by omega))
    · exact .inr (.inr h3))⟩
theorem Within.of_below (h : Below w.heap.size w w') : Within lo hi w w' := ⟨h.os, h.tape, h.output, h.size, fun i hi _ => h.block i hi⟩
theorem Within.of_grown {base size n : Nat} {e : TypeId} {v : Value} {xs : List Value} (ho : w.ownsRow base e size v n xs) (he : e ∈ rowTys) (hg : w.grownBy w' v.ownBlock) (h1 : lo ≤ base) (h2 : ∀ k, v.ownBlock = some k → k < hi) : Within lo hi w w' :=
  ⟨hg.os, hg.tape, hg.output, hg.size, fun i hi h3 => hg.block i hi (fun e1 => by
    rcases h3 with h3 | h3 | ⟨cs, t, fr, h3, h4⟩
    · have := (ho.lt i e1.symm).1; omega
    · have := h2 i e1.symm; omega
    · rcases ho.2 with ⟨rfl, _⟩ | ⟨g, cap, cur, rfl, _, hgg, _⟩
      · simp [Value.ownBlock] at e1
      · simp [Value.ownBlock] at e1
        subst e1
        rw [h3] at hgg
        injection hgg with q; injection q with _ q
        subst q
        exact h4 he)⟩
theorem Within.below {B : Nat} (h : Within lo hi w w') (hB : B ≤ lo) (hs : B ≤ w.heap.size) : Below B w w' :=
  ⟨h.os, h.tape, h.output, h.size, fun i hi => h.block i (by omega) (.inl (by omega))⟩
theorem Within.box {g : Nat} {cs : Array Value} {t : TypeId} {fr : Nat × Nat} (h : Within lo hi w w') (hg : w.heap[g]? = some (.cells cs t fr)) (hx : t ∉ rowTys := by decide) : w'.heap[g]? = some (.cells cs t fr) := (h.block g (blk_lt hg) (.inr (.inr ⟨cs, t, fr, hg, hx⟩))).trans hg
theorem own_within {base size n : Nat} {e : TypeId} {v : Value} {xs : List Value} (ho : w.ownsRow base e size v n xs) (h : Within lo hi w w') (hx : ∀ k, v.ownBlock = some k → k < lo ∨ hi ≤ k) : w'.ownsRow base e size v n xs := by
  refine ⟨ho.1, ?_⟩
  rcases ho.2 with hn | ⟨g, cap, cur, rfl, hb, hg, rest⟩
  · exact .inl hn
  · exact .inr ⟨g, cap, cur, rfl, hb, (h.block g (blk_lt hg) (by have := hx g rfl; omega)).trans hg, rest⟩
theorem own_ne_type {b1 b2 s1 s2 n1 n2 : Nat} {e1 e2 : TypeId} {v1 v2 : Value} {x1 x2 : List Value} (h1 : w.ownsRow b1 e1 s1 v1 n1 x1) (h2 : w.ownsRow b2 e2 s2 v2 n2 x2) (hne : e1 ≠ e2) : ∀ k, v1.ownBlock = some k → v2.ownBlock ≠ some k := by
  intro k hk hk2
  rcases h1.2 with ⟨rfl, _⟩ | ⟨g1, _, _, rfl, _, hg1, _⟩
  · simp [Value.ownBlock] at hk
  · rcases h2.2 with ⟨rfl, _⟩ | ⟨g2, _, _, rfl, _, hg2, _⟩
    · simp [Value.ownBlock] at hk2
    · simp [Value.ownBlock] at hk hk2
      subst hk
      subst hk2
      rw [hg1] at hg2
      injection hg2 with h; injection h with _ h
      exact hne h
theorem own_grown {base size n : Nat} {e : TypeId} {v : Value} {xs : List Value} {row : Option Nat} (ho : w.ownsRow base e size v n xs) (hg : w.grownBy w' row) (hx : ∀ k, v.ownBlock = some k → row ≠ some k) : w'.ownsRow base e size v n xs := by
  refine ho.kept hg ?_
  cases hv : v.ownBlock with
  | none => exact .inl rfl
  | some k => exact .inr (fun he => hx k hv he.symm)
theorem own_box {base size n g : Nat} {e : TypeId} {v : Value} {xs : List Value} {cs : Array Value} {t : TypeId} {fr : Nat × Nat} (ho : w.ownsRow base e size v n xs) (he : e ∈ rowTys) (hk : w.heap[g]? = some (.cells cs t fr)) (ht : t ∉ rowTys) (hg : w.grownBy w' (some g)) : w'.ownsRow base e size v n xs := by
  refine own_grown ho hg ?_
  intro k hk2 he2
  injection he2 with he2
  subst he2
  rcases ho.2 with ⟨rfl, _⟩ | ⟨g1, _, _, rfl, _, hg1, _⟩
  · simp [Value.ownBlock] at hk2
  · simp [Value.ownBlock] at hk2
    subst hk2
    rw [hk] at hg1
    injection hg1 with q; injection q with _ q
    subst q
    exact ht he
structure Boxy (w w' : World) : Prop where
  size : w.heap.size ≤ w'.heap.size
  block : ∀ k, k < w.heap.size → ¬ boxAt w k → w'.heap[k]? = w.heap[k]?
theorem Boxy.refl (w : World) : Boxy w w := ⟨Nat.le_refl _, fun _ _ _ => rfl⟩
theorem Boxy.setCell (h : Boxy w w') {p : Addr} (hp : boxAt w p.block ∨ w.heap.size ≤ p.block) (u : Value) : Boxy w (w'.setCell p u) :=
  ⟨by simpa [World.setCell] using h.size, fun k hk hn => (Below.heap_setCell _ _ _ _ (by
    rintro rfl
    rcases hp with hp | hp
    · exact hn hp
    · omega)).trans (h.block k hk hn)⟩
theorem Boxy.alloc (h : Boxy w w') (o : Obj) : Boxy w (w'.alloc o) := ⟨by have := h.size; simp; omega, fun k hk hn => (Below.heap_alloc _ _ _ (by have := h.size; omega)).trans (h.block k hk hn)⟩
theorem boxy {w w' : World} (h : Boxy w w' := by repeat (first | (with_reducible exact Boxy.refl _) | (with_reducible refine Boxy.drew ?_) | (with_reducible refine Boxy.drewN ?_ _) | (with_reducible refine Boxy.alloc ?_ _) | ((with_reducible refine Boxy.setCell ?_ ?hbs _); (case hbs => first | (with_reducible exact .inl (by assumption)) | exact .inl (by assumption) | exact .inr (by simp) | exact .inr (by simp; omega))))) : Boxy w w' := h
theorem own_boxy {base size n : Nat} {e : TypeId} {v : Value} {xs : List Value} (ho : w.ownsRow base e size v n xs) (he : e ∈ rowTys) (h : Boxy w w') : w'.ownsRow base e size v n xs := by
  refine ⟨ho.1, ?_⟩
  rcases ho.2 with hn | ⟨g, cap, cur, rfl, hb, hg, rest⟩
  · exact .inl hn
  · refine .inr ⟨g, cap, cur, rfl, hb, (h.block g (blk_lt hg) ?_).trans hg, rest⟩
    rintro ⟨cs, t, fr, hq, ht⟩
    rw [hg] at hq
    injection hq with q; injection q with _ q
    subst q
    exact ht he
theorem boxAt_of {g : Nat} {cs : Array Value} {t : TypeId} {fr : Nat × Nat} (h : w.heap[g]? = some (.cells cs t fr)) (ht : t ∉ rowTys := by decide) : boxAt w g := ⟨cs, t, fr, h, ht⟩
theorem own_lo {base base' size n : Nat} {e : TypeId} {v : Value} {xs : List Value} (ho : w.ownsRow base e size v n xs) (hx : ∀ k, v.ownBlock = some k → base' ≤ k) : w.ownsRow base' e size v n xs := by
  refine ⟨ho.1, ?_⟩
  rcases ho.2 with hn | ⟨g, cap, cur, rfl, hb, rest⟩
  · exact .inl hn
  · exact .inr ⟨g, cap, cur, rfl, hx g rfl, rest⟩
end
structure OwnS (w : World) (lo hi : Nat) (A : Option Addr) (c : Nat) (ss : List ByteArray) : Prop where
  row : w.ownsRow lo 9 1 (.slice A ss.length c) ss.length (ss.map Value.string)
  top : ∀ k, (Value.slice A ss.length c).ownBlock = some k → k < hi
section
variable {lo hi lo' hi' : Nat} {w w' : World} {A : Option Addr} {c : Nat} {ss : List ByteArray}
theorem OwnS.within {l h : Nat} (ho : OwnS w lo hi A c ss) (hW : Within l h w w') (hd : hi ≤ l ∨ h ≤ lo) : OwnS w' lo hi A c ss :=
  ⟨own_within ho.row hW (fun k hk => by have h1 := ho.top k hk; have h2 := (ho.row.lt k hk).1; omega), ho.top⟩
theorem OwnS.below (ho : OwnS w lo hi A c ss) (hb : Below w.heap.size w w') : OwnS w' lo hi A c ss := ⟨own_below ho.row hb, ho.top⟩
theorem OwnS.box {g : Nat} {cs : Array Value} {t : TypeId} {fr : Nat × Nat} (ho : OwnS w lo hi A c ss) (hk : w.heap[g]? = some (.cells cs t fr)) (ht : t ∉ rowTys) (hg : w.grownBy w' (some g)) : OwnS w' lo hi A c ss := ⟨own_box ho.row (by decide) hk ht hg, ho.top⟩
theorem OwnS.boxy (ho : OwnS w lo hi A c ss) (h : Boxy w w') : OwnS w' lo hi A c ss := ⟨own_boxy ho.row (by decide) h, ho.top⟩
theorem OwnS.alloc (ho : OwnS w lo hi A c ss) (o : Obj) : OwnS (w.alloc o) lo hi A c ss := ⟨ho.row.alloc _, ho.top⟩
theorem OwnS.wide (ho : OwnS w lo hi A c ss) (h1 : lo' ≤ lo) (h2 : hi ≤ hi') : OwnS w lo' hi' A c ss := ⟨own_base ho.row h1, fun k hk => by have := ho.top k hk; omega⟩
theorem OwnS.of (ho : w.ownsRow lo 9 1 (.slice A ss.length c) ss.length (ss.map Value.string)) (h : w.heap.size ≤ hi) : OwnS w lo hi A c ss := ⟨ho, fun k hk => by have := (ho.lt k hk).2; omega⟩
theorem OwnS.rd (ho : OwnS w lo hi A c ss) (hn : ss.length ≤ 16777216) (hs : ∀ s ∈ ss, s.size ≤ 16777216) : Strs w w.heap.size A ss.length ss := strs_of_own ho.row hn hs
end
theorem blk_other {w : World} {g : Nat} {p : Addr} {o : Obj} (h : w.heap[g]? = some o) (hne : g ≠ p.block) (u : Value) : (w.setCell p u).heap[g]? = some o := (Below.heap_setCell _ _ _ _ hne).trans h
end Go.Proofs.YtdddglihomchfaaGreat
namespace Go.Proofs.YtdddglihomchfaaGreat
open Go.ChangeShapes Go.WideShapes Go.ChangeAt Go.RowKit
set_option linter.unusedVariables false
set_option maxRecDepth 10000
def OkS (ss : List ByteArray) (m : Nat) : Prop := ss.length ≤ m ∧ ∀ s ∈ ss, s.size ≤ 16777216
def UCard (d f : Int) (ss : List ByteArray) (w : World) (e : Ending) (w' : World) : Prop :=
  ∃ A c, e = .returned (.agg #[.int .i64 d, .int .i64 f, .slice A ss.length c]) ∧ OwnS w' w.heap.size w'.heap.size A c ss ∧ Below w.heap.size w w'
def UCardB (d f : Int) (ss : List ByteArray) (b : Bool) (w : World) (e : Ending) (w' : World) : Prop :=
  ∃ A c, e = .returned (.tuple #[.agg #[.int .i64 d, .int .i64 f, .slice A ss.length c], .bool b]) ∧ OwnS w' w.heap.size w'.heap.size A c ss ∧ Below w.heap.size w w'
structure MkS (w : World) (lo hi : Nat) (A : Option Addr) (c : Nat) (k : Int) (n : Nat) : Prop where
  row : w.ownsRow lo 9 1 (.slice A n c) n (marks k n)
  top : ∀ k, (Value.slice A n c).ownBlock = some k → k < hi
section
variable {lo hi : Nat} {w w' : World} {A : Option Addr} {c n : Nat} {k : Int}
theorem MkS.below (h : MkS w lo hi A c k n) (hb : Below w.heap.size w w') : MkS w' lo hi A c k n := ⟨own_below h.row hb, h.top⟩
theorem MkS.alloc (h : MkS w lo hi A c k n) (o : Obj) : MkS (w.alloc o) lo hi A c k n := ⟨h.row.alloc _, h.top⟩
end
theorem u_heldCard (d f : Int) (A : Option Addr) (c n : Nat) (lo hi : Nat) (k : Int) (w : World) (h : MkS w lo hi A c k n) (hk0 : 0 ≤ k) (hk1 : k ≤ 4503599627370496) (hn : n ≤ 16777216) :
    Calls Tryz.prog 139 #[.agg #[.int .i64 d, .int .i64 f, .slice A n c], .int .i64 k] w fun e w' => e = .returned (.int .i64 (k + n)) ∧ Below w.heap.size w w' :=
  l_heldCard d f w.heap.size A n c k w (Reads.of_own h.row) (Nat.le_refl _) hk0 hk1 hn
end Go.Proofs.YtdddglihomchfaaGreat
namespace Go.Proofs.YtdddglihomchfaaGreat
open Go.ChangeShapes Go.WideShapes Go.ChangeAt Go.RowKit
set_option linter.unusedVariables false
set_option maxRecDepth 10000
theorem info_stepCells : (Tryz.prog.info? 65).map (fun i => (i.zero, i.size, i.bytes)) = some (some (.agg #[.int .i64 0, .int .i64 0, .int .i64 0, .int .i64 0, .int .i64 0, .string ByteArray.empty, .string ByteArray.empty]), 7, 72) := by kernel_rfl
set_option maxHeartbeats 1600000 in
theorem l_eqStep_same (K F L T I : Int) (b a : ByteArray) (w : World) : Calls Tryz.prog 173 #[.agg #[.int .i64 K, .int .i64 F, .int .i64 L, .int .i64 T, .int .i64 I, .string b, .string a], .agg #[.int .i64 K, .int .i64 F, .int .i64 L, .int .i64 T, .int .i64 I, .string b, .string a]] w fun e w' => e = .returned (.bool true) ∧ Below w.heap.size w w' := by
  have hbq_b := beq_toList_true (rfl : b = b)
  have hbq_a := beq_toList_true (rfl : a = a)
  go_enter Tryz.func173, Tryz.ntmps173
  go_wp2_with (go_at_call 195; refine (l_eqBox_same _ _ _ _).mono ?_; rintro e w1 ⟨rfl, hb1⟩; obtain ⟨hcb, hfb⟩ := bcell hb1; have hz_w1_0 : w.heap.size < w1.heap.size := (by have hzz := hb1.size; (try simp at hzz); omega); have hy_w1_0 := Nat.le_of_lt hz_w1_0; have hz_w1_1 : w.heap.size + 1 < w1.heap.size := (by have hzz := hb1.size; (try simp at hzz); omega); have hy_w1_1 := Nat.le_of_lt hz_w1_1)
  go_ret
  exact ⟨rfl, bel⟩
def FreshSteps (base : Nat) (l : List PStep) (w : World) (e : Ending) (w' : World) : Prop :=
  ∃ A c, e = .returned (.slice A l.length c) ∧ w'.ownsRow base 65 7 (.slice A l.length c) l.length (l.flatMap stepCells) ∧ Below w.heap.size w w'
set_option maxHeartbeats 1600000 in
theorem l_toStepS (B : Nat) (A : Option Addr) (n c : Nat) (l : List PStep) (w : World) (hS : Steps w B A n l) (hB : B ≤ w.heap.size) :
    Calls Tryz.prog 123 #[.slice A n c] w (FreshSteps w.heap.size l w) := by
  have hn := hS.nb
  have hl := hS.len
  have HL := Lib.hid hl
  clear hl
  obtain ⟨i0, hi0, hz0, hz1, hz2⟩ := info_parts info_stepCells
  have hmk := run_make_rowN (P := Tryz.prog) 35 65 i0 _ Tryz.underlying35 hi0 hz0 .i64 .i64 n n (Nat.le_refl _) (by rw [hz2]; omega) (by omega) w
  rw [hz1] at hmk
  go_enter Tryz.func123, Tryz.ntmps123
  go_wp2
  go_loopw [4] (fun i wr => ∃ j : Nat, j ≤ n ∧ i = .int .i64 j ∧ wr.ownsRow w.heap.size 65 7 (.slice (some ⟨w.heap.size, 0, none⟩) n n) n ((l.take j).flatMap stepCells ++ reps [.int .i64 0, .int .i64 0, .int .i64 0, .int .i64 0, .int .i64 0, .string ByteArray.empty, .string ByteArray.empty] (n - j)) ∧ Below w.heap.size w wr) (fun i _ => n - (intOf i).toNat)
  case atStart =>
    refine ⟨0, Nat.zero_le _, rfl, ?_, bel⟩
    have h := World.ownsRow_lit (w := w) (base := w.heap.size) (e := 65) (size := 7) (madeCells #[Value.int .i64 0, .int .i64 0, .int .i64 0, .int .i64 0, .int .i64 0, .string ByteArray.empty, .string ByteArray.empty] (n * 7)) n (Nat.le_refl _) (by unfold maxLen; omega) (by simp [madeCells])
    have hm := made_reps [Value.int .i64 0, .int .i64 0, .int .i64 0, .int .i64 0, .int .i64 0, .string ByteArray.empty, .string ByteArray.empty] n (by simp)
    rw [show (madeCells #[Value.int .i64 0, .int .i64 0, .int .i64 0, .int .i64 0, .int .i64 0, .string ByteArray.empty, .string ByteArray.empty] (n * 7)).toList = reps [Value.int .i64 0, .int .i64 0, .int .i64 0, .int .i64 0, .int .i64 0, .string ByteArray.empty, .string ByteArray.empty] n from hm] at h
    simpa using h
  case round =>
    obtain ⟨j, hj, rfl, hown, hb⟩ := hrel
    by_cases hlt : j < n
    · obtain ⟨hk1, ad, rfl, hab, hc0, hc1, hc2, hc3, hc4, hc5, hc6, hsb, hsa⟩ := (hS.below (hb.mono hB)).at_ hlt
      have hjn : j * 7 + 7 ≤ n * 7 := by omega
      go_wp2_with (go_at_call 34; refine (l_toStep _ _ _ _ _ _ _ _).mono ?_; rintro e w1 ⟨rfl, hb1⟩; have ho1 := own_below hown hb1; obtain ⟨u0, hu0⟩ := own_cellk ho1 (j * 7) (by omega); have hf0 := ho1.frozenAt (j * 7); obtain ⟨u1, hu1⟩ := own_cellk ho1 (j * 7 + 1) (by omega); have hf1 := ho1.frozenAt (j * 7 + 1); obtain ⟨u2, hu2⟩ := own_cellk ho1 (j * 7 + 2) (by omega); have hf2 := ho1.frozenAt (j * 7 + 2); obtain ⟨u3, hu3⟩ := own_cellk ho1 (j * 7 + 3) (by omega); have hf3 := ho1.frozenAt (j * 7 + 3); obtain ⟨u4, hu4⟩ := own_cellk ho1 (j * 7 + 4) (by omega); have hf4 := ho1.frozenAt (j * 7 + 4); obtain ⟨u5, hu5⟩ := own_cellk ho1 (j * 7 + 5) (by omega); have hf5 := ho1.frozenAt (j * 7 + 5); obtain ⟨u6, hu6⟩ := own_cellk ho1 (j * 7 + 6) (by omega); have hf6 := ho1.frozenAt (j * 7 + 6))
      go_roundw
      case rel =>
        have hst0 := ho1.stored (j * 7) (.int .i64 l[j].K)
        have hst1 := hst0.1.stored (j * 7 + 1) (.int .i64 l[j].F)
        have hst2 := hst1.1.stored (j * 7 + 2) (.int .i64 l[j].L)
        have hst3 := hst2.1.stored (j * 7 + 3) (.int .i64 l[j].T)
        have hst4 := hst3.1.stored (j * 7 + 4) (.int .i64 l[j].I)
        have hst5 := hst4.1.stored (j * 7 + 5) (.string l[j].b)
        have hst6 := hst5.1.stored (j * 7 + 6) (.string l[j].a)
        have hgr := only_trans ( only_trans ( only_trans ( only_trans ( only_trans ( only_trans (hst0.2) hst1.2) hst2.2) hst3.2) hst4.2) hst5.2) hst6.2
        refine ⟨j + 1, by omega, by go_num, ?_, only_below_B (hb.trans (hb1.mono hb.size)) hgr⟩
        have ho2 := hst6.1
        have hA : ((l.take j).flatMap stepCells).length = j * 7 := by rw [flat_len stepCells_len, List.length_take, Nat.min_eq_left (by omega)]
        have hR : reps [.int .i64 0, .int .i64 0, .int .i64 0, .int .i64 0, .int .i64 0, .string ByteArray.empty, .string ByteArray.empty] (n - j) = [.int .i64 0, .int .i64 0, .int .i64 0, .int .i64 0, .int .i64 0, .string ByteArray.empty, .string ByteArray.empty] ++ reps [.int .i64 0, .int .i64 0, .int .i64 0, .int .i64 0, .int .i64 0, .string ByteArray.empty, .string ByteArray.empty] (n - (j + 1)) := by rw [show n - j = (n - (j + 1)) + 1 from by omega, reps_succ]
        rw [hR, set7 _ _ (j * 7) hA, ← List.append_assoc] at ho2
        have hT : (l.take (j + 1)).flatMap stepCells = (l.take j).flatMap stepCells ++ [.int .i64 l[j].K, .int .i64 l[j].F, .int .i64 l[j].L, .int .i64 l[j].T, .int .i64 l[j].I, .string l[j].b, .string l[j].a] := by rw [List.take_succ_eq_append_getElem hk1, flat_snoc]; rfl
        rw [hT]; exact ho2
      case measure => simp [intOf]; omega
    · have hjn : j = n := by omega
      subst hjn
      have hE : (l.take j).flatMap stepCells ++ reps [.int .i64 0, .int .i64 0, .int .i64 0, .int .i64 0, .int .i64 0, .string ByteArray.empty, .string ByteArray.empty] (j - j) = l.flatMap stepCells := by
        rw [List.take_of_length_le (by have := HL.out; omega)]; simp [reps]
      rw [hE] at hown
      clear hE
      have HO := hide hown
      clear hown
      go_wp2
      go_ret
      have hl := HL.out
      subst hl
      exact ⟨_, _, rfl, unhide HO, hb⟩
set_option maxHeartbeats 1600000 in
theorem l_eqStepS_same (B : Nat) (A1 A2 : Option Addr) (n c1 c2 : Nat) (l : List PStep) (w : World) (h1 : Steps w B A1 n l) (h2 : Steps w B A2 n l) (hB : B ≤ w.heap.size) :
    Calls Tryz.prog 133 #[.slice A1 n c1, .slice A2 n c2] w fun e w' => e = .returned (.bool true) ∧ Below w.heap.size w w' := by
  have hn := h1.nb
  go_enter Tryz.func133, Tryz.ntmps133
  go_wp2
  go_loopw [5] (fun i wr => ∃ j : Nat, j ≤ n ∧ i = .int .i64 j ∧ Below w.heap.size w wr) (fun i _ => n - (intOf i).toNat)
  case atStart => exact ⟨0, Nat.zero_le _, rfl, Below.refl _ _⟩
  case round =>
    obtain ⟨j, hj, rfl, hb⟩ := hrel
    have hzr := hb.size
    by_cases hlt : j < n
    · obtain ⟨hk1, ad1, rfl, hab1, ha0, ha1, ha2, ha3, ha4, ha5, ha6, hsab, hsaa⟩ := (h1.below (hb.mono hB)).at_ hlt
      obtain ⟨hk2, ad2, rfl, hab2, hc0, hc1, hc2, hc3, hc4, hc5, hc6, hscb, hsca⟩ := (h2.below (hb.mono hB)).at_ hlt
      have hq1 : (ad1.add (j * 7)).block < wr.heap.size := by rw [block_of_add]; omega
      have hq2 : (ad2.add (j * 7)).block < wr.heap.size := by rw [block_of_add]; omega
      go_wp2
      go_region_held3 (fun W => (∀ p : Addr, p.block < wr.heap.size → W.cell? p = (wr).cell? p) ∧ (∀ p : Addr, p.block < wr.heap.size → W.frozen? p = (wr).frozen? p) ∧ Below (wr.heap.size) (wr) W) (exact keep_ofP bel) ((go_at_call 173; refine (l_eqStep_same _ _ _ _ _ _ _ _).mono ?_; rintro e w3 ⟨rfl, hb3⟩))
      have hb3' : Below wr.heap.size wr w3 := (Below.refl _ _).drew.trans hb3
      go_wp2
      go_roundw
      case rel => exact ⟨j + 1, by omega, by go_num, hb.trans (hb3'.mono hzr)⟩
      case measure => simp [intOf]; omega
    · go_wp2
      go_ret
      exact ⟨rfl, hb⟩
def mkStep (k : Int) : List Value := [.int .i64 (k), .int .i64 (k + 1), .int .i64 (k + 1 + 1), .int .i64 (k + 1 + 1 + 1), .int .i64 (k + 1 + 1 + 1 + 1), .string (markT (k + 1 + 1 + 1 + 1 + 1)), .string (markT (k + 1 + 1 + 1 + 1 + 1 + 1))]
theorem mkStep_len (k : Int) : (mkStep k).length = 7 := rfl
def marksStep (k : Int) (n : Nat) : List Value := (List.range n).flatMap fun (i : Nat) => mkStep (k + 7 * (i : Int))
theorem marksStep_len (k : Int) (n : Nat) : (marksStep k n).length = n * 7 := by unfold marksStep; rw [flat_len (fun (i : Nat) => mkStep_len _)]; simp
theorem marksStep_succ (k : Int) (n : Nat) : marksStep k (n + 1) = marksStep k n ++ mkStep (k + 7 * (n : Int)) := by unfold marksStep; rw [List.range_succ, flat_snoc]
theorem marksStep_get (k : Int) (n i j : Nat) (hi : i < n) (hj : j < 7) : (marksStep k n)[i * 7 + j]? = (mkStep (k + 7 * (i : Int)))[j]? := by
  unfold marksStep
  rw [flat_get (fun (i : Nat) => mkStep_len _) _ i j (by simpa using hi) hj]; simp
theorem drop_rowStep (xs : List Value) (n j : Nat) (hx : xs.length = n * 7) (hj : j < n) : ∃ z0 z1 z2 z3 z4 z5 z6 : Value, xs.drop (j * 7) = [z0, z1, z2, z3, z4, z5, z6] ++ xs.drop ((j + 1) * 7) := by
  have hlt : j * 7 + 7 ≤ xs.length := by rw [hx]; omega
  refine ⟨xs[j * 7], xs[j * 7 + 1], xs[j * 7 + 2], xs[j * 7 + 3], xs[j * 7 + 4], xs[j * 7 + 5], xs[j * 7 + 6], ?_⟩
  rw [show (j + 1) * 7 = j * 7 + 7 by omega]
  rw [List.drop_eq_getElem_cons (show j * 7 < xs.length by omega), List.drop_eq_getElem_cons (show j * 7 + 1 < xs.length by omega), List.drop_eq_getElem_cons (show j * 7 + 2 < xs.length by omega), List.drop_eq_getElem_cons (show j * 7 + 3 < xs.length by omega), List.drop_eq_getElem_cons (show j * 7 + 4 < xs.length by omega), List.drop_eq_getElem_cons (show j * 7 + 5 < xs.length by omega), List.drop_eq_getElem_cons (show j * 7 + 6 < xs.length by omega)]
  rfl
set_option maxHeartbeats 1600000 in
theorem l_markStepS (base : Nat) (A : Option Addr) (n c c' : Nat) (xs : List Value) (k : Int) (w : World) (hO : w.ownsRow base 65 7 (.slice A n c) n xs) (hk0 : 0 ≤ k) (hk1 : k ≤ 4503599627370496) (hn : n ≤ 16777216) :
    Calls Tryz.prog 138 #[.slice A n c', .int .i64 k] w fun e w' => e = .returned (.int .i64 (k + 7 * (n : Int))) ∧ w'.ownsRow base 65 7 (.slice A n c) n (marksStep k n) ∧ w.grownBy w' (Value.slice A n c).ownBlock := by
  go_enter Tryz.func138, Tryz.ntmps138
  go_wp2
  go_loopw [1, 5] (fun q i wr => ∃ j : Nat, j ≤ n ∧ i = .int .i64 j ∧ q = .int .i64 (k + 7 * (j : Int)) ∧ wr.ownsRow base 65 7 (.slice A n c) n (marksStep k j ++ xs.drop (j * 7)) ∧ w.grownBy wr (Value.slice A n c).ownBlock) (fun _ i _ => n - (intOf i).toNat)
  case atStart => exact ⟨0, Nat.zero_le _, rfl, by simp, by simpa [marksStep] using hO, World.grownBy.refl w _⟩
  case round =>
    obtain ⟨j, hj, rfl, rfl, hown, hg⟩ := hrel
    have hxl : xs.length = n * 7 := hO.1
    have HX := Lib.hid hxl
    clear hxl
    by_cases hlt : j < n
    · obtain ⟨g, cap, hv, hbg, hglt⟩ := hown.form (by omega)
      have hA : A = some ⟨g, 0, none⟩ := by injection hv
      subst hA
      clear hv
      obtain ⟨z0, z1, z2, z3, z4, z5, z6, hz⟩ := drop_rowStep xs n j HX.out hlt
      have HZ := Lib.hid hz
      clear hz
      have hjn : j * 7 + 7 ≤ n * 7 := by omega
      obtain ⟨u0, hu0⟩ := own_cellk hown (j * 7) (by omega); have hf0 := hown.frozenAt (j * 7); obtain ⟨u1, hu1⟩ := own_cellk hown (j * 7 + 1) (by omega); have hf1 := hown.frozenAt (j * 7 + 1); obtain ⟨u2, hu2⟩ := own_cellk hown (j * 7 + 2) (by omega); have hf2 := hown.frozenAt (j * 7 + 2); obtain ⟨u3, hu3⟩ := own_cellk hown (j * 7 + 3) (by omega); have hf3 := hown.frozenAt (j * 7 + 3); obtain ⟨u4, hu4⟩ := own_cellk hown (j * 7 + 4) (by omega); have hf4 := hown.frozenAt (j * 7 + 4); obtain ⟨u5, hu5⟩ := own_cellk hown (j * 7 + 5) (by omega); have hf5 := hown.frozenAt (j * 7 + 5); obtain ⟨u6, hu6⟩ := own_cellk hown (j * 7 + 6) (by omega); have hf6 := hown.frozenAt (j * 7 + 6)
      go_wp2_with fail
      have hst0 := (hown).stored (j * 7) (.int .i64 (k + 7 * (j : Int)))
      have hgr0 := only_trans hg hst0.2
      have hst1 := (hst0.1).stored (j * 7 + 1) (.int .i64 (k + 7 * (j : Int) + 1))
      have hgr1 := only_trans hgr0 hst1.2
      have hst2 := (hst1.1).stored (j * 7 + 2) (.int .i64 (k + 7 * (j : Int) + 1 + 1))
      have hgr2 := only_trans hgr1 hst2.2
      have hst3 := (hst2.1).stored (j * 7 + 3) (.int .i64 (k + 7 * (j : Int) + 1 + 1 + 1))
      have hgr3 := only_trans hgr2 hst3.2
      have hst4 := (hst3.1).stored (j * 7 + 4) (.int .i64 (k + 7 * (j : Int) + 1 + 1 + 1 + 1))
      have hgr4 := only_trans hgr3 hst4.2
      refine (l_markText (k + 7 * (j : Int) + 1 + 1 + 1 + 1 + 1) _ (by omega) (by omega)).mono ?_
      rintro e w1 ⟨rfl, hb1⟩
      have ho1 := own_below (hst4.1) hb1
      have hgb1 := only_below hgr4 hb1
      obtain ⟨uw1_0, huw1_0⟩ := own_cellk ho1 (j * 7) (by omega); have hfw1_0 := ho1.frozenAt (j * 7); obtain ⟨uw1_1, huw1_1⟩ := own_cellk ho1 (j * 7 + 1) (by omega); have hfw1_1 := ho1.frozenAt (j * 7 + 1); obtain ⟨uw1_2, huw1_2⟩ := own_cellk ho1 (j * 7 + 2) (by omega); have hfw1_2 := ho1.frozenAt (j * 7 + 2); obtain ⟨uw1_3, huw1_3⟩ := own_cellk ho1 (j * 7 + 3) (by omega); have hfw1_3 := ho1.frozenAt (j * 7 + 3); obtain ⟨uw1_4, huw1_4⟩ := own_cellk ho1 (j * 7 + 4) (by omega); have hfw1_4 := ho1.frozenAt (j * 7 + 4); obtain ⟨uw1_5, huw1_5⟩ := own_cellk ho1 (j * 7 + 5) (by omega); have hfw1_5 := ho1.frozenAt (j * 7 + 5); obtain ⟨uw1_6, huw1_6⟩ := own_cellk ho1 (j * 7 + 6) (by omega); have hfw1_6 := ho1.frozenAt (j * 7 + 6)
      go_wp2_with fail
      have hst5 := (ho1).stored (j * 7 + 5) (.string (markT (k + 7 * (j : Int) + 1 + 1 + 1 + 1 + 1)))
      have hgr5 := only_trans hgb1 hst5.2
      refine (l_markText (k + 7 * (j : Int) + 1 + 1 + 1 + 1 + 1 + 1) _ (by omega) (by omega)).mono ?_
      rintro e w2 ⟨rfl, hb2⟩
      have ho2 := own_below (hst5.1) hb2
      have hgb2 := only_below hgr5 hb2
      obtain ⟨uw2_0, huw2_0⟩ := own_cellk ho2 (j * 7) (by omega); have hfw2_0 := ho2.frozenAt (j * 7); obtain ⟨uw2_1, huw2_1⟩ := own_cellk ho2 (j * 7 + 1) (by omega); have hfw2_1 := ho2.frozenAt (j * 7 + 1); obtain ⟨uw2_2, huw2_2⟩ := own_cellk ho2 (j * 7 + 2) (by omega); have hfw2_2 := ho2.frozenAt (j * 7 + 2); obtain ⟨uw2_3, huw2_3⟩ := own_cellk ho2 (j * 7 + 3) (by omega); have hfw2_3 := ho2.frozenAt (j * 7 + 3); obtain ⟨uw2_4, huw2_4⟩ := own_cellk ho2 (j * 7 + 4) (by omega); have hfw2_4 := ho2.frozenAt (j * 7 + 4); obtain ⟨uw2_5, huw2_5⟩ := own_cellk ho2 (j * 7 + 5) (by omega); have hfw2_5 := ho2.frozenAt (j * 7 + 5); obtain ⟨uw2_6, huw2_6⟩ := own_cellk ho2 (j * 7 + 6) (by omega); have hfw2_6 := ho2.frozenAt (j * 7 + 6)
      go_wp2
      have hst6 := (ho2).stored (j * 7 + 6) (.string (markT (k + 7 * (j : Int) + 1 + 1 + 1 + 1 + 1 + 1)))
      have hgr6 := only_trans hgb2 hst6.2
      go_roundw
      case rel =>
        refine ⟨j + 1, by omega, by go_num, by congr 1; omega, ?_, hgr6⟩
        have ho9 := hst6.1
        rw [HZ.out, set7 _ _ (j * 7) (marksStep_len _ _), ← List.append_assoc] at ho9
        rw [marksStep_succ]; exact ho9
      case measure => simp [intOf]; omega
    · have hjn : j = n := by omega
      subst hjn
      have hd : xs.drop (j * 7) = [] := List.drop_eq_nil_of_le (by have := HX.out; omega)
      rw [hd, List.append_nil] at hown
      clear hd
      go_wp2
      go_ret
      exact ⟨rfl, hown, hg⟩
set_option maxHeartbeats 1600000 in
theorem l_heldStepS (B : Nat) (A : Option Addr) (n c : Nat) (k : Int) (w : World) (hR : Reads w B 7 A n (marksStep k n)) (hB : B ≤ w.heap.size) (hk0 : 0 ≤ k) (hk1 : k ≤ 4503599627370496) (hn : n ≤ 16777216) :
    Calls Tryz.prog 140 #[.slice A n c, .int .i64 k] w fun e w' => e = .returned (.int .i64 (k + 7 * (n : Int))) ∧ Below w.heap.size w w' := by
  go_enter Tryz.func140, Tryz.ntmps140
  go_wp2
  go_loopw [1, 5] (fun q i wr => ∃ j : Nat, j ≤ n ∧ i = .int .i64 j ∧ q = .int .i64 (k + 7 * (j : Int)) ∧ Below w.heap.size w wr) (fun _ i _ => n - (intOf i).toNat)
  case atStart => exact ⟨0, Nat.zero_le _, rfl, by simp, Below.refl _ _⟩
  case round =>
    obtain ⟨j, hj, rfl, rfl, hb⟩ := hrel
    have hzr := hb.size
    by_cases hlt : j < n
    · obtain ⟨ad, hA, hab, hc⟩ := (hR.below (hb.mono hB)).2 (by omega)
      subst hA
      have hg := fun i hi => marksStep_get k n j i hlt hi
      have hc0 : wr.cell? (ad.add (j * 7)) = some (.int .i64 (k + 7 * (j : Int))) := hc _ _ (hg 0 (by omega))
      have hc1 : wr.cell? ⟨(ad.add (j * 7)).block, (ad.add (j * 7)).off + 1, none⟩ = some (.int .i64 (k + 7 * (j : Int) + 1)) := by rw [← add_next _ _ _ (by omega)]; exact hc _ _ (hg 1 (by omega))
      have hc2 : wr.cell? ⟨(ad.add (j * 7)).block, (ad.add (j * 7)).off + 2, none⟩ = some (.int .i64 (k + 7 * (j : Int) + 1 + 1)) := by rw [← add_next _ _ _ (by omega)]; exact hc _ _ (hg 2 (by omega))
      have hc3 : wr.cell? ⟨(ad.add (j * 7)).block, (ad.add (j * 7)).off + 3, none⟩ = some (.int .i64 (k + 7 * (j : Int) + 1 + 1 + 1)) := by rw [← add_next _ _ _ (by omega)]; exact hc _ _ (hg 3 (by omega))
      have hc4 : wr.cell? ⟨(ad.add (j * 7)).block, (ad.add (j * 7)).off + 4, none⟩ = some (.int .i64 (k + 7 * (j : Int) + 1 + 1 + 1 + 1)) := by rw [← add_next _ _ _ (by omega)]; exact hc _ _ (hg 4 (by omega))
      have hc5 : wr.cell? ⟨(ad.add (j * 7)).block, (ad.add (j * 7)).off + 5, none⟩ = some (.string (markT (k + 7 * (j : Int) + 1 + 1 + 1 + 1 + 1))) := by rw [← add_next _ _ _ (by omega)]; exact hc _ _ (hg 5 (by omega))
      have hc6 : wr.cell? ⟨(ad.add (j * 7)).block, (ad.add (j * 7)).off + 6, none⟩ = some (.string (markT (k + 7 * (j : Int) + 1 + 1 + 1 + 1 + 1 + 1))) := by rw [← add_next _ _ _ (by omega)]; exact hc _ _ (hg 6 (by omega))
      have hq1 : (ad.add (j * 7)).block < wr.heap.size := by rw [block_of_add]; omega
      clear hg hc
      have hbm5 := beq_toList_true (rfl : markT (k + 7 * (j : Int) + 1 + 1 + 1 + 1 + 1) = markT (k + 7 * (j : Int) + 1 + 1 + 1 + 1 + 1))
      have hbm6 := beq_toList_true (rfl : markT (k + 7 * (j : Int) + 1 + 1 + 1 + 1 + 1 + 1) = markT (k + 7 * (j : Int) + 1 + 1 + 1 + 1 + 1 + 1))
      go_wp2
      go_region_held3 (fun W => (∀ p : Addr, p.block < wr.heap.size → W.cell? p = (wr).cell? p) ∧ (∀ p : Addr, p.block < wr.heap.size → W.frozen? p = (wr).frozen? p) ∧ Below (wr.heap.size) (wr) W) (exact keep_ofP bel) ((go_at_call 137; refine (l_markText (k + 7 * (j : Int) + 1 + 1 + 1 + 1 + 1) _ (by omega) (by omega)).mono ?_; rintro e w1 ⟨rfl, hbr1⟩))
      have hb1 : Below wr.heap.size wr w1 := (Below.refl _ _).drew.trans hbr1
      have hz1 := hb1.size
      have hcc1 : ∀ q : Addr, q.block < wr.heap.size → w1.cell? q = wr.cell? q := fun q hq => hb1.cell hq
      have hqq1 : (ad.add (j * 7)).block < w1.heap.size := by omega
      go_wp2
      go_region_held3 (fun W => (∀ p : Addr, p.block < w1.heap.size → W.cell? p = (w1).cell? p) ∧ (∀ p : Addr, p.block < w1.heap.size → W.frozen? p = (w1).frozen? p) ∧ Below (w1.heap.size) (w1) W) (exact keep_ofP bel) ((go_at_call 137; refine (l_markText (k + 7 * (j : Int) + 1 + 1 + 1 + 1 + 1 + 1) _ (by omega) (by omega)).mono ?_; rintro e w2 ⟨rfl, hbr2⟩))
      have hb2 : Below w1.heap.size w1 w2 := (Below.refl _ _).drew.trans hbr2
      have hz2 := hb2.size
      have hcc2 : ∀ q : Addr, q.block < w1.heap.size → w2.cell? q = w1.cell? q := fun q hq => hb2.cell hq
      have hqq2 : (ad.add (j * 7)).block < w2.heap.size := by omega
      go_wp2
      go_roundw
      case rel => exact ⟨j + 1, by omega, by go_num, by congr 1; omega, bel⟩
      case measure => simp [intOf]; omega
    · have hjn : j = n := by omega
      subst hjn
      go_wp2
      go_ret
      exact ⟨rfl, hb⟩
end Go.Proofs.YtdddglihomchfaaGreat
