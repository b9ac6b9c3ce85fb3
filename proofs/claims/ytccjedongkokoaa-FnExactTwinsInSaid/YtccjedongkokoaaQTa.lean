/- Contracts of the program's and the reference's functions (Str1, Shelf, Str2, Mem, Card1, Law1, Card2, Card3, Mem2, BeqKit). -/
import Derived.Below
import Derived.BigQuiet
import Derived.Deep.AppendLies
import Derived.Deep.Draws
import Derived.Deep.QuietTactic
import Derived.Deep.RegionHeld3
import Derived.Deep.RegionWith
import Derived.Deep.Upon
import Derived.Ground.Names2Prog
import Derived.Laws.OwnMore
import Derived.Lib.Hide
import Derived.Lib.RowBridge
import Derived.Maps.AppendAt
import Derived.OpenShut
import Derived.OwnWalk
import Derived.ProofKit
import Derived.RegionTactic
import Derived.Shelf.Bits.Mul64
import Derived.Shelf.LaysM
import Derived.Shelf.Slices.Cells
import Derived.Shelf.Slices.Clone
import Derived.Shelf.Slices.ReverseS
import Derived.Shelf.Strings.Builder1
import Derived.Shelf.Strings.Builder2
import Derived.Shelf.Strings.BuilderF
import Derived.Shelf.Strings.Count
import Derived.Shelf.Strings.Prefix
import Derived.Shelf.Strings.Repeat
import Derived.Shelf.Strings.RuneCount
import Derived.Shelf.Strings.Search1
import Derived.Shelf.Strings.Search2
import Derived.Shelf.Strings.Search3
import Derived.Shelf.Strings.Shaped
import Derived.Shelf.Strings.Split
import Derived.Shelf.Utf8.RuneCount
import Derived.Test.YtccjedongkokoaaProg
import Derived.WalkKit
import Derived.WalkLawsBesides
import Derived.WalkSpells
import Derived.Test.YtccjedongkokoaaRows
namespace Go.Proofs.Ytccjedongkokoaa
open Go.ChangeShapes Go.WideShapes Go.ChangeAt Go.RowKit
def inB (x a b : Int) : Bool := decide (a ≤ x) && decide (x ≤ b)
def cnt (c : UInt8) (l : List UInt8) : Nat := l.count c
theorem cnt_le (c : UInt8) (l : List UInt8) : cnt c l ≤ l.length := List.count_le_length
theorem cnt_snoc (c : UInt8) (l : List UInt8) (x : UInt8) : cnt c (l ++ [x]) = cnt c l + if x = c then 1 else 0 := by
  unfold cnt; rw [List.count_append, List.count_singleton]; by_cases h : x = c <;> simp [h]
theorem cnt_two (l : List UInt8) : cnt 100 l + cnt 102 l ≤ l.length := by
  induction l with
  | nil => simp [cnt]
  | cons x t ih =>
    unfold cnt at *
    rw [List.count_cons, List.count_cons, List.length_cons]
    by_cases h : x = 100
    · subst h; simp; omega
    · by_cases h2 : x = 102
      · subst h2; simp; omega
      · simp [h, h2]; omega
def isStrip (l : List UInt8) : Bool := (cnt 100 l + cnt 102 l == l.length) && (inB (cnt 100 l) 1 8 && inB (cnt 102 l) 1 8)
theorem take_snoc (s : ByteArray) (k : Nat) (h : k < s.size) : s.data.toList.take (k + 1) = s.data.toList.take k ++ [s[k]] := by
  rw [List.take_succ_eq_append_getElem (by simpa using h)]; rfl
theorem ba_ext {a b : ByteArray} (h : a.data.toList = b.data.toList) : a = b := by
  cases a; cases b; simp at h; rw [h]
theorem ret_int {k : IntKind} {a b : Int} (h : a = b) : Ending.returned (.int k a) = .returned (.int k b) := by rw [h]
theorem ret_str {a b : ByteArray} (h : a = b) : Ending.returned (.string a) = .returned (.string b) := by rw [h]
theorem ret_bool {a b : Bool} (h : a = b) : Ending.returned (.bool a) = .returned (.bool b) := by rw [h]
set_option maxHeartbeats 400000 in
theorem i_within (x a b : Int) (w : World) : Calls Try.prog 76 #[.int .i64 x, .int .i64 a, .int .i64 b] w fun e w' => e = .returned (.bool (inB x a b)) ∧ w = w' := by
  by_cases h : a ≤ x
  · go_enter Try.func76, Try.ntmps76
    go_wp2
    go_ret
    exact ⟨by simp [inB, h], rfl⟩
  · go_enter Try.func76, Try.ntmps76
    go_wp2
    go_ret
    exact ⟨ret_bool (by unfold inB; rw [decide_eq_false (by omega)]; rfl), rfl⟩
set_option maxHeartbeats 400000 in
theorem s_l01In (x a b : Int) (w : World) : Calls Try.prog 96 #[.int .i64 x, .int .i64 a, .int .i64 b] w fun e w' => e = .returned (.bool (inB x a b)) ∧ w = w' := by
  by_cases h : a ≤ x
  · go_enter Try.func96, Try.ntmps96
    go_wp2
    go_ret
    exact ⟨by simp [inB, h], rfl⟩
  · go_enter Try.func96, Try.ntmps96
    go_wp2
    go_ret
    exact ⟨ret_bool (by unfold inB; rw [decide_eq_false (by omega)]; rfl), rfl⟩
set_option maxHeartbeats 400000 in
theorem s_l02Count (s : ByteArray) (c : UInt8) (w : World) (hs : s.size ≤ maxLen) :
    Calls Try.prog 134 #[.string s, .int .u8 c.toNat] w fun e w' => e = .returned (.int .i64 (cnt c s.data.toList)) ∧ w = w' := by
  unfold maxLen at hs
  go_enter Try.func134, Try.ntmps134
  go_wp2
  go_loop [5, 6] (fun n i => ∃ k : Nat, k ≤ s.size ∧ i = .int .i64 k ∧ n = .int .i64 (cnt c (s.data.toList.take k))) (fun _ i => s.size - (intOf i).toNat)
  case atStart => exact ⟨0, Nat.zero_le _, rfl, rfl⟩
  case round =>
    obtain ⟨k, hk, rfl, rfl⟩ := hrel
    have hd := cnt_le c (s.data.toList.take k)
    have hl : (s.data.toList.take k).length ≤ k := List.length_take_le _ _
    by_cases hlt : k < s.size
    · have hts := take_snoc s k hlt
      have hsn := cnt_snoc c (s.data.toList.take k) s[k]
      rw [← hts] at hsn
      have HS := Lib.hid hsn
      clear hsn hts
      by_cases hc : s[k] = c
      · have hb : ((s[k].toNat : Int) == (c.toNat : Int)) = true := by rw [hc]; simp
        have HC := Lib.hid hc
        clear hc
        go_wp2
        go_round
        case rel => exact ⟨k + 1, by omega, by go_num, by rw [HS.out, if_pos HC.out]; go_num⟩
        case measure => simp [intOf]; omega
      · have hb : ((s[k].toNat : Int) == (c.toNat : Int)) = false := by
          rw [beq_eq_false_iff_ne]; intro h; exact hc (UInt8.toNat_inj.1 (by omega))
        have HC := Lib.hid hc
        clear hc
        go_wp2
        go_round
        case rel => exact ⟨k + 1, by omega, by go_num, by rw [HS.out, if_neg HC.out]; go_num⟩
        case measure => simp [intOf]; omega
    · go_wp2
      go_ret
      exact ⟨ret_int (by rw [List.take_of_length_le (by simp; omega)]), rfl⟩
set_option maxHeartbeats 400000 in
theorem s_IsStrip (s : ByteArray) (w : World) (hs : s.size ≤ maxLen) :
    Calls Try.prog 100 #[.string s] w fun e w' => e = .returned (.bool (isStrip s.data.toList)) ∧ w = w' := by
  unfold maxLen at hs
  go_enter Try.func100, Try.ntmps100
  go_wp2
  go_loop [3, 4, 5] (fun d f i => ∃ k : Nat, k ≤ s.size ∧ i = .int .i64 k ∧ d = .int .i64 (cnt 100 (s.data.toList.take k)) ∧ f = .int .i64 (cnt 102 (s.data.toList.take k)) ∧ k ≤ cnt 100 (s.data.toList.take k) + cnt 102 (s.data.toList.take k)) (fun _ _ i => s.size - (intOf i).toNat)
  case atStart => exact ⟨0, Nat.zero_le _, rfl, rfl, rfl, by simp⟩
  case round =>
    obtain ⟨k, hk, rfl, rfl, rfl, hsum⟩ := hrel
    have hd := cnt_le 100 (s.data.toList.take k)
    have hd2 := cnt_le 102 (s.data.toList.take k)
    have hl : (s.data.toList.take k).length ≤ k := List.length_take_le _ _
    by_cases hlt : k < s.size
    · have hts := take_snoc s k hlt
      have hsn := cnt_snoc 100 (s.data.toList.take k) s[k]
      have hsn2 := cnt_snoc 102 (s.data.toList.take k) s[k]
      rw [← hts] at hsn hsn2
      have HS := Lib.hid hsn
      have HS2 := Lib.hid hsn2
      have hts' := Lib.hid hts
      clear hsn hsn2 hts
      by_cases hc : s[k] = 100
      · have hb : ((s[k].toNat : Int) == 100) = true := by rw [hc]; rfl
        have HC := Lib.hid hc
        clear hc
        go_wp2
        go_round
        case rel =>
          have e1 := HS.out; have e2 := HS2.out
          rw [HC.out] at e1 e2
          simp at e1 e2
          exact ⟨k + 1, by omega, by go_num, by rw [e1]; go_num, by rw [e2], by omega⟩
        case measure => simp [intOf]; omega
      · have hb : ((s[k].toNat : Int) == 100) = false := by
          rw [beq_eq_false_iff_ne]; intro h; exact hc (UInt8.toNat_inj.1 (by show s[k].toNat = 100; omega))
        by_cases hc2 : s[k] = 102
        · have hb2 : ((s[k].toNat : Int) == 102) = true := by rw [hc2]; rfl
          have HC := Lib.hid hc2
          clear hc hc2
          go_wp2
          go_round
          case rel =>
            have e1 := HS.out; have e2 := HS2.out
            rw [HC.out] at e1 e2
            simp at e1 e2
            exact ⟨k + 1, by omega, by go_num, by rw [e1], by rw [e2]; go_num, by omega⟩
          case measure => simp [intOf]; omega
        · have hb2 : ((s[k].toNat : Int) == 102) = false := by
            rw [beq_eq_false_iff_ne]; intro h; exact hc2 (UInt8.toNat_inj.1 (by show s[k].toNat = 102; omega))
          have hfin : isStrip s.data.toList = false := by
            have h1 := cnt_two (s.data.toList.drop (k + 1))
            have e1 := HS.out; have e2 := HS2.out
            rw [if_neg hc] at e1; rw [if_neg hc2] at e2
            have a1 : cnt 100 s.data.toList = cnt 100 (s.data.toList.take (k + 1)) + cnt 100 (s.data.toList.drop (k + 1)) := by
              unfold cnt; rw [← List.count_append, List.take_append_drop]
            have a2 : cnt 102 s.data.toList = cnt 102 (s.data.toList.take (k + 1)) + cnt 102 (s.data.toList.drop (k + 1)) := by
              unfold cnt; rw [← List.count_append, List.take_append_drop]
            have h3 := cnt_two (s.data.toList.take k)
            have hlen : s.data.toList.length = s.size := by simp
            unfold isStrip
            rw [List.length_drop] at h1
            have : (cnt 100 s.data.toList + cnt 102 s.data.toList == s.data.toList.length) = false := by
              rw [beq_eq_false_iff_ne]; omega
            rw [this]; rfl
          have HF := Lib.hid hfin
          clear hc hc2 hfin
          go_wp2
          go_ret
          exact ⟨ret_bool HF.out.symm, rfl⟩
    · have hk' : k = s.size := by omega
      subst hk'
      have ht : s.data.toList.take s.size = s.data.toList := List.take_of_length_le (by simp)
      rw [ht] at hsum hd hd2 ⊢
      have h3 := cnt_two s.data.toList
      have hlen : s.data.toList.length = s.size := by simp
      have HE : Hid ((cnt 100 s.data.toList + cnt 102 s.data.toList == s.data.toList.length) = true) := by
        show _ = true
        rw [beq_iff_eq]; omega
      clear hlen ht hsum h3
      cases hA : inB (cnt 100 s.data.toList) 1 8 <;> cases hB : inB (cnt 102 s.data.toList) 1 8 <;> 
      · go_wp2_with (go_at_call 96; refine (s_l01In _ _ _ _).mono ?_; rintro e w' ⟨rfl, rfl⟩)
        go_ret
        exact ⟨ret_bool (by unfold isStrip; rw [HE.out, hA, hB]; rfl), rfl⟩
end Go.Proofs.Ytccjedongkokoaa
namespace Go.Proofs
open Go.Shelf
def Try.lays170_ren : Go.Shelf.Ren := ⟨fun | 170 => 132 | n => n, fun | 70 => 133 | 3 => 3 | 0 => 0 | 72 => 135 | 37 => 22 | 5 => 5 | n => n, fun | n => n⟩
def Try.lays169_ren : Go.Shelf.Ren := ⟨fun | 169 => 133 | n => n, fun | 70 => 133 | 9 => 9 | 0 => 0 | 72 => 135 | 37 => 22 | 127 => 153 | 3 => 3 | 5 => 5 | n => n, fun | n => n⟩
def Try.lays241_ren : Go.Shelf.Ren := ⟨fun | 241 => 152 | 277 => 156 | n => n, fun | 70 => 133 | 3 => 3 | 0 => 0 | 72 => 135 | 37 => 22 | 5 => 5 | n => n, fun | n => n⟩
def Try.lays165_ren : Go.Shelf.Ren := ⟨fun | 165 => 130 | 240 => 151 | 241 => 152 | 276 => 155 | 277 => 156 | n => n, fun | 70 => 133 | 3 => 3 | 0 => 0 | 4 => 4 | 9 => 9 | 20 => 20 | 72 => 135 | 37 => 22 | 164 => 155 | 5 => 5 | n => n, fun | n => n⟩
def Try.lays195_ren : Go.Shelf.Ren := ⟨fun | 195 => 146 | n => n, fun | 9 => 9 | 3 => 3 | 0 => 0 | 4 => 4 | n => n, fun | n => n⟩
def Try.lays217_ren : Go.Shelf.Ren := ⟨fun | 217 => 157 | 266 => 161 | n => n, fun | 9 => 9 | 5 => 5 | 3 => 3 | n => n, fun | n => n⟩
def Try.lays224_ren : Go.Shelf.Ren := ⟨fun | 224 => 159 | n => n, fun | 3 => 3 | n => n, fun | n => n⟩
def Try.lays314_ren : Go.Shelf.Ren := ⟨fun | 314 => 162 | n => n, fun | 9 => 9 | 51 => 147 | 3 => 3 | 4 => 4 | 5 => 5 | 46 => 130 | n => n, fun | n => n⟩
def Try.lays267_ren : Go.Shelf.Ren := ⟨fun | 267 => 160 | 314 => 162 | n => n, fun | 9 => 9 | 3 => 3 | 146 => 148 | 51 => 147 | 4 => 4 | 5 => 5 | 46 => 130 | n => n, fun | n => n⟩
def Try.lays219_ren : Go.Shelf.Ren := ⟨fun | 219 => 154 | 217 => 157 | 225 => 158 | 224 => 159 | 267 => 160 | 266 => 161 | 314 => 162 | n => n, fun | 9 => 9 | 3 => 3 | 4 => 4 | 5 => 5 | 46 => 130 | 146 => 148 | 51 => 147 | n => n, fun | 1 => 0 | n => n⟩
def Try.lays143_ren : Go.Shelf.Ren := ⟨fun | 143 => 148 | 219 => 154 | 217 => 157 | 225 => 158 | 224 => 159 | 267 => 160 | 266 => 161 | 314 => 162 | n => n, fun | 9 => 9 | 3 => 3 | 4 => 4 | 5 => 5 | 46 => 130 | 146 => 148 | 51 => 147 | n => n, fun | 1 => 0 | n => n⟩
def Try.lays138_ren : Go.Shelf.Ren := ⟨fun | 138 => 126 | 195 => 146 | 218 => 147 | 143 => 148 | 219 => 154 | 217 => 157 | 225 => 158 | 224 => 159 | 267 => 160 | 266 => 161 | 314 => 162 | n => n, fun | 9 => 9 | 3 => 3 | 4 => 4 | 5 => 5 | 0 => 0 | 46 => 130 | 146 => 148 | 51 => 147 | n => n, fun | 1 => 0 | n => n⟩
theorem Try.lays138 : Go.Proofs.Lays.n138 Try.prog Try.lays138_ren := {
  mixed := by kernel_rfl
  f138 := Try.func126.trans (congrArg some (by kernel_rfl))
  f143 := Try.func148.trans (congrArg some (by kernel_rfl))
  f195 := Try.func146.trans (congrArg some (by kernel_rfl))
  f217 := Try.func157.trans (congrArg some (by kernel_rfl))
  f218 := Try.func147.trans (congrArg some (by kernel_rfl))
  f219 := Try.func154.trans (congrArg some (by kernel_rfl))
  f224 := Try.func159.trans (congrArg some (by kernel_rfl))
  f225 := Try.func158.trans (congrArg some (by kernel_rfl))
  f266 := Try.func161.trans (congrArg some (by kernel_rfl))
  f267 := Try.func160.trans (congrArg some (by kernel_rfl))
  f314 := Try.func162.trans (congrArg some (by kernel_rfl))
  t0 := Try.underlying0
  a0 := Try.isAgg0
  z0 := Try.sizeOf0
  v0 := Try.zeroValue0
  t3 := Try.underlying3
  a3 := Try.isAgg3
  z3 := Try.sizeOf3
  v3 := Try.zeroValue3
  t4 := Try.underlying4
  a4 := Try.isAgg4
  z4 := Try.sizeOf4
  v4 := Try.zeroValue4
  t5 := Try.underlying5
  a5 := Try.isAgg5
  z5 := Try.sizeOf5
  v5 := Try.zeroValue5
  t9 := Try.underlying9
  a9 := Try.isAgg9
  z9 := Try.sizeOf9
  v9 := Try.zeroValue9
  t46 := Try.underlying130
  a46 := Try.isAgg130
  z46 := Try.sizeOf130
  v46 := Try.zeroValue130
  t51 := Try.underlying147
  a51 := Try.isAgg147
  z51 := Try.sizeOf147
  v51 := Try.zeroValue147
  t146 := Try.underlying148
  a146 := Try.isAgg148
  z146 := Try.sizeOf148
  v146 := Try.zeroValue148
  g1 := by kernel_rfl }
open Go.RowKit Go.Lib in
theorem Try.strings_Count_one (s : ByteArray) (c : UInt8) (w : World) :
    Calls Try.prog 126 #[.string s, .string ⟨#[c]⟩] w fun e w' => e = .returned (.int .i64 (Lib.countByte s.data.toList c)) ∧ w' = w := Any.strings_Count_one Try.lays138 s c w
def Try.laysM219_ren : Go.Shelf.Ren := ⟨fun | 219 => 154 | 217 => 157 | 225 => 158 | 224 => 159 | 267 => 160 | 266 => 161 | 314 => 162 | n => n, fun | 9 => 9 | 3 => 3 | 4 => 4 | 5 => 5 | 46 => 130 | 146 => 148 | 51 => 147 | n => n, fun | 1 => 0 | n => n⟩
def Try.laysM143_ren : Go.Shelf.Ren := ⟨fun | 143 => 148 | 219 => 154 | 217 => 157 | 225 => 158 | 224 => 159 | 267 => 160 | 266 => 161 | 314 => 162 | n => n, fun | 9 => 9 | 3 => 3 | 4 => 4 | 5 => 5 | 46 => 130 | 146 => 148 | 51 => 147 | n => n, fun | 1 => 0 | n => n⟩
def Try.laysM138_ren : Go.Shelf.Ren := ⟨fun | 138 => 126 | 195 => 146 | 218 => 147 | 143 => 148 | 219 => 154 | 217 => 157 | 225 => 158 | 224 => 159 | 267 => 160 | 266 => 161 | 314 => 162 | n => n, fun | 9 => 9 | 3 => 3 | 4 => 4 | 5 => 5 | 0 => 0 | 46 => 130 | 146 => 148 | 51 => 147 | n => n, fun | 1 => 0 | n => n⟩
def Try.lays206_ren : Go.Shelf.Ren := ⟨fun | 206 => 119 | n => n, fun | 9 => 9 | 4 => 4 | 3 => 3 | n => n, fun | n => n⟩
def Try.lays99_ren : Go.Shelf.Ren := ⟨fun | 99 => 75 | 206 => 119 | n => n, fun | 9 => 9 | 4 => 4 | 3 => 3 | n => n, fun | n => n⟩
def Try.lays264_ren : Go.Shelf.Ren := ⟨fun | 264 => 150 | n => n, fun | 53 => 150 | 46 => 130 | n => n, fun | n => n⟩
def Try.lays212_ren : Go.Shelf.Ren := ⟨fun | 212 => 129 | 263 => 149 | 264 => 150 | n => n, fun | 46 => 130 | 51 => 147 | 146 => 148 | 53 => 150 | 148 => 151 | n => n, fun | n => n⟩
def Try.lays105_ren : Go.Shelf.Ren := ⟨fun | 105 => 93 | 212 => 129 | 99 => 75 | 165 => 130 | 166 => 131 | 170 => 132 | 169 => 133 | 263 => 149 | 264 => 150 | 206 => 119 | 240 => 151 | 241 => 152 | 276 => 155 | 277 => 156 | n => n, fun | 9 => 9 | 3 => 3 | 4 => 4 | 20 => 20 | 0 => 0 | 46 => 130 | 109 => 131 | 5 => 5 | 72 => 135 | 76 => 139 | 51 => 147 | 146 => 148 | 53 => 150 | 148 => 151 | 70 => 133 | 37 => 22 | 75 => 138 | 127 => 153 | 164 => 155 | 80 => 142 | n => n, fun | n => n⟩
def Try.laysNm217_ren : Go.Shelf.Ren := ⟨fun | 17 => 111 | n => n, fun | 24 => 24 | 9 => 9 | 3 => 3 | 4 => 4 | 0 => 0 | n => n, fun | n => n⟩
theorem Try.laysNm217 : Go.Proofs.Lays2.n17 Try.prog Try.laysNm217_ren := {
  mixed := by kernel_rfl
  f17 := Try.func111.trans (congrArg some (by kernel_rfl))
  t0 := Try.underlying0
  a0 := Try.isAgg0
  z0 := Try.sizeOf0
  v0 := Try.zeroValue0
  t3 := Try.underlying3
  a3 := Try.isAgg3
  z3 := Try.sizeOf3
  v3 := Try.zeroValue3
  t4 := Try.underlying4
  a4 := Try.isAgg4
  z4 := Try.sizeOf4
  v4 := Try.zeroValue4
  t9 := Try.underlying9
  a9 := Try.isAgg9
  z9 := Try.sizeOf9
  v9 := Try.zeroValue9
  t24 := Try.underlying24
  a24 := Try.isAgg24
  z24 := Try.sizeOf24
  v24 := Try.zeroValue24 }
def Try.laysNm216_ren : Go.Shelf.Ren := ⟨fun | 16 => 99 | n => n, fun | 24 => 24 | 9 => 9 | 4 => 4 | n => n, fun | n => n⟩
open Go.RowKit Go.Lib Go.Sort in
theorem Try.slices_Reverse_string_cells (b off n c : Nat) (Sx : Nat → ByteArray) (w : World) (hbig : n ≤ 9223372036854775807) (hc : ∀ i, i < n → w.cell? ⟨b, off + i, none⟩ = some (.string (Sx i))) (hf : ∀ j, j < n → w.frozen? ⟨b, off + j, none⟩ = false) :
    Calls Try.prog 111 #[.slice (some ⟨b, off, none⟩) n c] w fun e w' => e = .returned (.tuple #[]) ∧ ∃ q, w' = (w.drewN q).setCells b off ((Lib.strsOf Sx n).reverse.map encStr) := Any.slices_Reverse_string_cells Try.laysNm217 b off n c Sx w hbig hc hf
end Go.Proofs
namespace Go.Proofs.Ytccjedongkokoaa
open Go.ChangeShapes Go.WideShapes Go.ChangeAt Go.RowKit
def downOf (l : List UInt8) : Int := if isStrip l = true then cnt 100 l else 0
def forwardOf (l : List UInt8) : Int := if isStrip l = true then cnt 102 l else 0
def isStepsB (n : Int) : Bool := inB n 1 8
theorem strCount (s : ByteArray) (c : UInt8) (w : World) :
    Calls Try.prog 126 #[.string s, .string ⟨#[c]⟩] w fun e w' => e = .returned (.int .i64 (cnt c s.data.toList)) ∧ w = w' :=
  (Try.strings_Count_one s c w).mono fun _ _ ⟨h1, h2⟩ => ⟨h1, h2.symm⟩
set_option maxHeartbeats 400000 in
theorem i_IsStrip (s : ByteArray) (w : World) (hs : s.size ≤ maxLen) :
    Calls Try.prog 125 #[.string s] w fun e w' => e = .returned (.bool (isStrip s.data.toList)) ∧ w = w' := by
  unfold maxLen at hs
  have hd := cnt_le 100 s.data.toList
  have hd2 := cnt_le 102 s.data.toList
  have h3 := cnt_two s.data.toList
  have hlen : s.data.toList.length = s.size := by simp
  rw [hlen] at hd hd2 h3
  cases hE : ((cnt 100 s.data.toList : Int) + (cnt 102 s.data.toList : Int) == (s.size : Int))
  · have HE : (cnt 100 s.data.toList + cnt 102 s.data.toList == s.data.toList.length) = false := by
      rw [beq_eq_false_iff_ne] at hE ⊢; omega
    have HE' := Lib.hid HE
    clear HE hlen
    go_enter Try.func125, Try.ntmps125
    go_wp2_with (first | (go_at_call 126; refine (strCount _ _ _).mono ?_; rintro e w' ⟨rfl, rfl⟩) | (go_at_call 76; refine (i_within _ _ _ _).mono ?_; rintro e w' ⟨rfl, rfl⟩))
    go_ret
    exact ⟨ret_bool (by unfold isStrip; rw [HE'.out]; rfl), rfl⟩
  · have HE : (cnt 100 s.data.toList + cnt 102 s.data.toList == s.data.toList.length) = true := by
      rw [beq_iff_eq] at hE ⊢; omega
    have HE' := Lib.hid HE
    clear HE hlen
    cases hA : inB (cnt 100 s.data.toList) 1 8 <;> cases hB : inB (cnt 102 s.data.toList) 1 8 <;>
    · go_enter Try.func125, Try.ntmps125
      go_wp2_with (first | (go_at_call 126; refine (strCount _ _ _).mono ?_; rintro e w' ⟨rfl, rfl⟩) | (go_at_call 76; refine (i_within _ _ _ _).mono ?_; rintro e w' ⟨rfl, rfl⟩))
      go_ret
      exact ⟨ret_bool (by unfold isStrip; rw [HE'.out, hA, hB]; rfl), rfl⟩
set_option maxHeartbeats 400000 in
theorem i_DownOf (s : ByteArray) (w : World) (hs : s.size ≤ maxLen) :
    Calls Try.prog 87 #[.string s] w fun e w' => e = .returned (.int .i64 (downOf s.data.toList)) ∧ w = w' := by
  cases hI : isStrip s.data.toList <;>
  · go_enter Try.func87, Try.ntmps87
    go_wp2_with (first | (go_at_call 126; refine (strCount _ _ _).mono ?_; rintro e w' ⟨rfl, rfl⟩) | (go_at_call 125; refine (i_IsStrip _ _ hs).mono ?_; rintro e w' ⟨rfl, rfl⟩))
    go_ret
    exact ⟨ret_int (by unfold downOf; rw [hI]; rfl), rfl⟩
set_option maxHeartbeats 400000 in
theorem i_ForwardOf (s : ByteArray) (w : World) (hs : s.size ≤ maxLen) :
    Calls Try.prog 88 #[.string s] w fun e w' => e = .returned (.int .i64 (forwardOf s.data.toList)) ∧ w = w' := by
  cases hI : isStrip s.data.toList <;>
  · go_enter Try.func88, Try.ntmps88
    go_wp2_with (first | (go_at_call 126; refine (strCount _ _ _).mono ?_; rintro e w' ⟨rfl, rfl⟩) | (go_at_call 125; refine (i_IsStrip _ _ hs).mono ?_; rintro e w' ⟨rfl, rfl⟩))
    go_ret
    exact ⟨ret_int (by unfold forwardOf; rw [hI]; rfl), rfl⟩
set_option maxHeartbeats 400000 in
theorem s_DownOf (s : ByteArray) (w : World) (hs : s.size ≤ maxLen) :
    Calls Try.prog 97 #[.string s] w fun e w' => e = .returned (.int .i64 (downOf s.data.toList)) ∧ w = w' := by
  cases hI : isStrip s.data.toList <;>
  · go_enter Try.func97, Try.ntmps97
    go_wp2_with (first | (go_at_call 134; refine (s_l02Count _ 100 _ hs).mono ?_; rintro e w' ⟨rfl, rfl⟩) | (go_at_call 100; refine (s_IsStrip _ _ hs).mono ?_; rintro e w' ⟨rfl, rfl⟩))
    go_ret
    exact ⟨ret_int (by unfold downOf; rw [hI]; rfl), rfl⟩
set_option maxHeartbeats 400000 in
theorem s_ForwardOf (s : ByteArray) (w : World) (hs : s.size ≤ maxLen) :
    Calls Try.prog 98 #[.string s] w fun e w' => e = .returned (.int .i64 (forwardOf s.data.toList)) ∧ w = w' := by
  cases hI : isStrip s.data.toList <;>
  · go_enter Try.func98, Try.ntmps98
    go_wp2_with (first | (go_at_call 134; refine (s_l02Count _ 102 _ hs).mono ?_; rintro e w' ⟨rfl, rfl⟩) | (go_at_call 100; refine (s_IsStrip _ _ hs).mono ?_; rintro e w' ⟨rfl, rfl⟩))
    go_ret
    exact ⟨ret_int (by unfold forwardOf; rw [hI]; rfl), rfl⟩
set_option maxHeartbeats 400000 in
theorem i_isSteps (n : Int) (w : World) :
    Calls Try.prog 89 #[.int .i64 n] w fun e w' => e = .returned (.bool (isStepsB n)) ∧ w = w' := by
  go_enter Try.func89, Try.ntmps89
  go_wp2_with (go_at_call 76; refine (i_within _ _ _ _).mono ?_; rintro e w' ⟨rfl, rfl⟩)
  go_ret
  exact ⟨rfl, rfl⟩
set_option maxHeartbeats 400000 in
theorem s_l02Frame (d f : Int) (w : World) :
    Calls Try.prog 94 #[.int .i64 d, .int .i64 f] w fun e w' => e = .returned (.bool (isStepsB d && isStepsB f)) ∧ w = w' := by
  cases h1 : inB d 1 8 <;> cases h2 : inB f 1 8 <;>
  · go_enter Try.func94, Try.ntmps94
    go_wp2_with (go_at_call 96; refine (s_l01In _ _ _ _).mono ?_; rintro e w' ⟨rfl, rfl⟩)
    go_ret
    exact ⟨ret_bool (by unfold isStepsB; rw [h1, h2]; rfl), rfl⟩
end Go.Proofs.Ytccjedongkokoaa
namespace Go.Proofs.Ytccjedongkokoaa
open Go.ChangeShapes Go.WideShapes Go.ChangeAt Go.RowKit
theorem block_of_add (a : Addr) (n : Nat) : (a.add n).block = a.block := by unfold Addr.add; split <;> rfl
theorem add_of_add (a : Addr) (i j : Nat) : (a.add i).add j = a.add (i + j) := by
  unfold Addr.add
  by_cases hi : i = 0 <;> by_cases hj : j = 0 <;> simp [hi, hj, Nat.add_assoc]
def Reads (w : World) (B size : Nat) (A : Option Addr) (n : Nat) (xs : List Value) : Prop :=
  xs.length = n * size ∧ (0 < n → ∃ ad, A = some ad ∧ ad.block < B ∧ ∀ j u, xs[j]? = some u → w.cell? (ad.add j) = some u)
section
variable {w w' : World} {B B' size n : Nat} {A : Option Addr} {xs : List Value}
theorem Reads.none_ : Reads w B size A 0 [] := ⟨by simp, fun h => absurd h (by omega)⟩
theorem Reads.at_ {k : Nat} (h : Reads w B 1 A n xs) (hk : k < n) : ∃ ad u, A = some ad ∧ ad.block < B ∧ xs[k]? = some u ∧ w.cell? (ad.add k) = some u := by
  obtain ⟨ad, e, hb, hc⟩ := h.2 (by omega)
  have hl : k < xs.length := by have := h.1; omega
  exact ⟨ad, xs[k], e, hb, List.getElem?_eq_getElem hl, hc k _ (List.getElem?_eq_getElem hl)⟩
theorem Reads.keep (h : Reads w B size A n xs) (hk : ∀ p : Addr, p.block < B → w'.cell? p = w.cell? p) : Reads w' B size A n xs :=
  ⟨h.1, fun hn => by
    obtain ⟨ad, e, hb, hc⟩ := h.2 hn
    exact ⟨ad, e, hb, fun j u hu => (hk _ (by rw [block_of_add]; exact hb)).trans (hc j u hu)⟩⟩
theorem Reads.more (h : Reads w B size A n xs) (hB : B ≤ B') : Reads w B' size A n xs :=
  ⟨h.1, fun hn => by
    obtain ⟨ad, e, hb, hc⟩ := h.2 hn
    exact ⟨ad, e, by omega, hc⟩⟩
theorem Reads.below (h : Reads w B size A n xs) (hb : Below B w w') : Reads w' B size A n xs := h.keep fun _ hp => hb.cell hp
theorem Reads.drew (h : Reads w B size A n xs) : Reads w.drew B size A n xs := h
theorem Reads.alloc (h : Reads w B size A n xs) (hB : B ≤ w.heap.size) (o : Obj) : Reads (w.alloc o) B size A n xs := h.keep fun p hp => World.cell?_alloc_lt w o p (by omega)
theorem Reads.of_own {base : Nat} {e : TypeId} {c : Nat} (h : w.ownsRow base e size (.slice A n c) n xs) : Reads w w.heap.size size A n xs := by
  refine ⟨h.1, fun hn => ?_⟩
  obtain ⟨g, cap, hv, _, hlt⟩ := h.form hn
  have hA : A = some ⟨g, 0, none⟩ := by injection hv
  subst hA
  exact ⟨_, rfl, hlt, h.cells (g := g) rfl⟩
end
theorem hide {p : Prop} (h : p) : Hid p := h
theorem unhide {p : Prop} (h : Hid p) : p := h
section
variable {P : Program} (w : World)
theorem run_append_of_nil (base : Nat) (t ty e : TypeId) (i : TypeInfo) (size : Nat) (ht : P.underlying t = some (.slice e)) (hi : P.info? e = some i)
    (v : Value) (n : Nat) (xs : List Value) (hown : w.ownsRow base e size v n xs) (c : Nat) : (Builtin.append_ #[t, t] ty #[v, .slice none 0 c]).run P w = .ok v w := by
  rcases hown.2 with ⟨rfl, rfl⟩ | ⟨g, cap, cur, rfl, _, _, hnc, _⟩
  · simp [Builtin.append_, run_underlying ht, sizeOf, typeInfo, hi, Builtin.lenOf, Builtin.firstCells]
  · simp [Builtin.append_, run_underlying ht, sizeOf, typeInfo, hi, Builtin.lenOf, Builtin.firstCells, hnc, storeCells]
theorem run_append_any (base : Nat) (t ty e : TypeId) (i : TypeInfo) (z : Value) (size bytes : Nat) (ht : P.underlying t = some (.slice e)) (hi : P.info? e = some i) (hz : i.zero = some z)
    (hsize : i.size = size) (hby : i.bytes = bytes) (hzs : z.cells.size = size) (hsz : 0 < size)
    (v : Value) (n : Nat) (xs : List Value) (hown : w.ownsRow base e size v n xs)
    (B : Nat) (A : Option Addr) (m c : Nat) (news : List Value) (hr : Reads w B size A m news) (h1 : ∀ u ∈ news, u.oneCell' = true)
    (h63 : n + m ≤ maxLen) (hbytes : (n + m) * bytes ≤ 140737488355328) (hbase : base ≤ w.heap.size) :
    ∃ v' w', (Builtin.append_ #[t, t] ty #[v, .slice A m c]).run P w = .ok v' w' ∧ w'.ownsRow base e size v' (n + m) (xs ++ news) ∧ w.grownBy w' v.ownBlock ∧
      (v'.ownBlock = v.ownBlock ∨ v'.ownBlock = some w.heap.size) := by
  rcases A with _ | ad
  · have hm : m = 0 := by
      rcases Nat.eq_zero_or_pos m with h0 | h0
      · exact h0
      · obtain ⟨ad, h, _⟩ := hr.2 h0
        cases h
    subst hm
    have hn : news = [] := List.eq_nil_of_length_eq_zero (by simpa using hr.1)
    subst hn
    exact ⟨v, w, run_append_of_nil w base t ty e i size ht hi v n xs hown c, by simpa using hown, World.grownBy.refl w _, .inl rfl⟩
  · have hcells : ∀ j u, news[j]? = some u → w.cell? (ad.add j) = some u := by
      intro j u hu
      rcases Nat.eq_zero_or_pos m with h0 | h0
      · subst h0
        have hn : news = [] := List.eq_nil_of_length_eq_zero (by simpa using hr.1)
        subst hn
        simp at hu
      · obtain ⟨ad', h, _, hc⟩ := hr.2 h0
        injection h with h
        subst h
        exact hc j u hu
    obtain ⟨v', w', hrun, h2, h3, _, h5⟩ := run_append_own_at (P := P) w base t ty e i z size bytes ht hi hz hsize hby hzs hsz v n xs hown ad m c news hr.1 hcells h1 h63 hbytes hbase
    exact ⟨v', w', hrun, h2, h3, h5⟩
theorem wp_append_any {o : Oper} {a : Act} {K : Act → World → Prop} {Q : Exit → Act → World → Prop} (s x : Operand) (t : TypeId)
    (ho : o.op = .call { callee := .builtin .append, args := #[s, x], argTypes := #[t, t] })
    (base : Nat) (e : TypeId) (i : TypeInfo) (z : Value) (size bytes : Nat) (ht : P.underlying t = some (.slice e)) (hi : P.info? e = some i) (hz : i.zero = some z)
    (hsize : i.size = size) (hby : i.bytes = bytes) (hzs : z.cells.size = size) (hsz : 0 < size)
    (v : Value) (n : Nat) (xs : List Value) (hs : a.eval s = v) (hown : w.ownsRow base e size v n xs)
    (B : Nat) (A : Option Addr) (m c : Nat) (news : List Value) (hx : a.eval x = .slice A m c) (hr : Reads w B size A m news) (h1 : ∀ u ∈ news, u.oneCell' = true)
    (h63 : n + m ≤ maxLen) (hbytes : (n + m) * bytes ≤ 140737488355328) (hbase : base ≤ w.heap.size)
    (h : ∀ v' w', w'.ownsRow base e size v' (n + m) (xs ++ news) → w.grownBy w' v.ownBlock → (v'.ownBlock = v.ownBlock ∨ v'.ownBlock = some w.heap.size) → K (a.put o.dst v') w') : o.wp P a w K Q := by
  obtain ⟨v', w', hrun, h2, h3, h4⟩ := run_append_any (P := P) w base t o.type e i z size bytes ht hi hz hsize hby hzs hsz v n xs hown B A m c news hr h1 h63 hbytes hbase
  unfold Oper.wp execOp
  simp only [ho, resolve, invoke, builtin, Sem.run_bind, Sem.run_pure, Result.andThen_ok, List.map_toArray, List.map_cons, List.map_nil, hs, hx, hrun]
  exact h v' w' h2 h3 h4
theorem wpList_append_any {ops : Array Oper} {rest : List Oper} {o : Oper} {a : Act} {Q : Exit → Act → World → Prop} (hgd : o.guard = none) (s x : Operand) (t : TypeId)
    (ho : o.op = .call { callee := .builtin .append, args := #[s, x], argTypes := #[t, t] })
    (base : Nat) (e : TypeId) (i : TypeInfo) (z : Value) (size bytes : Nat) (ht : P.underlying t = some (.slice e)) (hi : P.info? e = some i) (hz : i.zero = some z)
    (hsize : i.size = size) (hby : i.bytes = bytes) (hzs : z.cells.size = size) (hsz : 0 < size)
    (v : Value) (n : Nat) (xs : List Value) (hs : a.eval s = v) (hown : w.ownsRow base e size v n xs)
    (B : Nat) (A : Option Addr) (m c : Nat) (news : List Value) (hx : a.eval x = .slice A m c) (hr : Reads w B size A m news) (h1 : ∀ u ∈ news, u.oneCell' = true)
    (h63 : n + m ≤ maxLen) (hbytes : (n + m) * bytes ≤ 140737488355328) (hbase : base ≤ w.heap.size)
    (h : ∀ v' w', w'.ownsRow base e size v' (n + m) (xs ++ news) → w.grownBy w' v.ownBlock → (v'.ownBlock = v.ownBlock ∨ v'.ownBlock = some w.heap.size) → wpList P ops Q rest (a.put o.dst v') w') : wpList P ops Q (o :: rest) a w :=
  wpList_plain hgd fun _ hK => wp_append_any w s x t ho base e i z size bytes ht hi hz hsize hby hzs hsz v n xs hs hown B A m c news hx hr h1 h63 hbytes hbase fun v' w' h2 h3 h4 => hK _ _ (h v' w' h2 h3 h4)
theorem step_append_any {ops : Array Oper} {o : Oper} {a : Act} {K : Act → World → Prop} {Q : Exit → Act → World → Prop} {E : Prop} (hgd : o.guard = none) (s x : Operand) (t : TypeId)
    (ho : o.op = .call { callee := .builtin .append, args := #[s, x], argTypes := #[t, t] })
    (base : Nat) (e : TypeId) (i : TypeInfo) (z : Value) (size bytes : Nat) (ht : P.underlying t = some (.slice e)) (hi : P.info? e = some i) (hz : i.zero = some z)
    (hsize : i.size = size) (hby : i.bytes = bytes) (hzs : z.cells.size = size) (hsz : 0 < size)
    (v : Value) (n : Nat) (xs : List Value) (hs : a.eval s = v) (hown : w.ownsRow base e size v n xs)
    (B : Nat) (A : Option Addr) (m c : Nat) (news : List Value) (hx : a.eval x = .slice A m c) (hr : Reads w B size A m news) (h1 : ∀ u ∈ news, u.oneCell' = true)
    (h63 : n + m ≤ maxLen) (hbytes : (n + m) * bytes ≤ 140737488355328) (hbase : base ≤ w.heap.size)
    (h : ∀ v' w', w'.ownsRow base e size v' (n + m) (xs ++ news) → w.grownBy w' v.ownBlock → (v'.ownBlock = v.ownBlock ∨ v'.ownBlock = some w.heap.size) → K (a.put o.dst v') w') :
    if Region.wanted o (yielded ops a.tmps) = true then Oper.wp P o a w K Q else E := by
  have hw : Region.wanted o (yielded ops a.tmps) = true := by simp [Region.wanted, hgd]
  rw [if_pos hw]
  exact wp_append_any w s x t ho base e i z size bytes ht hi hz hsize hby hzs hsz v n xs hs hown B A m c news hx hr h1 h63 hbytes hbase h
end
theorem quiet_add_left {P : Program} {f : FuncId} {args : Array Value} {w : World} {a n : Nat} {v : Value}
    (h : Calls P f args (w.drewN (a + n)) fun e w' => e = .returned v ∧ w.drewN (a + n) = w') :
    Calls P f args (w.drewN (a + n)) fun e w'' => e = .returned v ∧ ∃ m, w'' = w.drewN (a + m) :=
  h.mono fun _ _ ⟨he, hm⟩ => ⟨he, n, hm.symm⟩
theorem below_drewN {B : Nat} {a w : World} (h : Below B a w) (n : Nat) : Below B a (w.drewN n) := ⟨h.os, h.tape, h.output, h.size, h.block⟩
theorem run_make_rowN {P : Program} (t e : TypeId) (i : TypeInfo) (z : Value) (ht : P.underlying t = some (.slice e)) (hi : P.info? e = some i) (hz : i.zero = some z)
    (kl kc : IntKind) (n c : Nat) (hnc : n ≤ c) (hbytes : i.bytes * c ≤ 281474976710656) (h63 : c ≤ 9223372036854775807) (w : World) :
    (Instr.makeSlice t (.int kl (n : Int)) (.int kc (c : Int))).run P w = .ok (.slice (some ⟨w.heap.size, 0, none⟩) n c) (w.alloc (.cells (madeCells z.cells (c * i.size)) e)) := by
  have hb : (i.bytes : Int) * (c : Int) ≤ 281474976710656 := by
    have h : ((i.bytes * c : Nat) : Int) ≤ 281474976710656 := by omega
    rwa [Int.natCast_mul] at h
  have hr := run_make (P := P) w t e i z ht hi hz kl kc n c (by omega) (by omega) hb (by omega)
  simp only [Int.toNat_natCast] at hr
  exact hr
theorem grown_of_below {a w : World} (h : Below a.heap.size a w) (row : Option Nat) : a.grownBy w row := ⟨h.os, h.tape, h.output, h.size, fun i hi _ => h.block i hi⟩
theorem only_trans {a b c : World} {row : Option Nat} (h : a.grownBy b row) (k : b.grownBy c row) : a.grownBy c row :=
  ⟨k.os.trans h.os, k.tape.trans h.tape, k.output.trans h.output, Nat.le_trans h.size k.size, fun i hi hne => (k.block i (Nat.lt_of_lt_of_le hi h.size) hne).trans (h.block i hi hne)⟩
theorem only_below {a b c : World} {row : Option Nat} (h : a.grownBy b row) (k : Below b.heap.size b c) : a.grownBy c row := only_trans h (grown_of_below k row)
theorem own_below {w w' : World} {base : Nat} {e : TypeId} {size : Nat} {v : Value} {n : Nat} {xs : List Value} (h : w.ownsRow base e size v n xs) (hb : Below w.heap.size w w') : w'.ownsRow base e size v n xs :=
  h.kept (grown_of_below hb none) (by cases hv : v.ownBlock <;> simp)
theorem only_below_B {a b c : World} {g : Nat} (h : Below a.heap.size a b) (k : b.grownBy c (some g)) (hg : a.heap.size ≤ g := by first | omega | simp) : Below a.heap.size a c :=
  ⟨k.os.trans h.os, k.tape.trans h.tape, k.output.trans h.output, Nat.le_trans h.size k.size, fun i hi => (k.block i (Nat.lt_of_lt_of_le hi h.size) (by intro e; injection e; omega)).trans (h.block i hi)⟩
structure Upper (B : Nat) (a w : World) : Prop where
  size : a.heap.size ≤ w.heap.size
  block : ∀ g, B ≤ g → g < a.heap.size → w.heap[g]? = a.heap[g]?
theorem Upper.refl (B : Nat) (a : World) : Upper B a a := ⟨Nat.le_refl _, fun _ _ _ => rfl⟩
theorem Upper.setCell {B : Nat} {a w : World} (h : Upper B a w) {p : Addr} (hp : p.block < B) (u : Value) : Upper B a (w.setCell p u) :=
  ⟨by simpa [World.setCell] using h.size, fun g hg hl => (Below.heap_setCell _ _ _ _ (by omega)).trans (h.block g hg hl)⟩
theorem bel {B : Nat} {a w : World} (h : Below B a w := by repeat (first | (with_reducible exact Below.refl _ _) | (with_reducible assumption) | (with_reducible exact (‹_ ∧ _ ∧ Below _ _ _›).2.2) | (with_reducible refine below_drewN ?_ _) | (with_reducible refine Below.drew ?_) | ((with_reducible refine Below.alloc ?_ ?hsd _); (case hsd => (first | exact Nat.le_refl _ | (simp; done) | omega | (simp; omega) | exact (‹_ ∧ _ ∧ Below _ _ _›).2.2.size))) | ((with_reducible refine Below.setCell ?_ ?hsd _); (case hsd => (first | exact Nat.le_refl _ | (simp; done) | omega | (simp; omega) | exact (‹_ ∧ _ ∧ Below _ _ _›).2.2.size))) | ((with_reducible refine Below.trans ?_ (Below.mono (by with_reducible assumption) ?hsd)); (case hsd => (first | exact Nat.le_refl _ | (simp; done) | omega | (simp; omega) | exact (‹_ ∧ _ ∧ Below _ _ _›).2.2.size))) | exact Below.refl _ _ | assumption | exact (‹_ ∧ _ ∧ Below _ _ _›).2.2 | refine below_drewN ?_ _ | refine Below.drew ?_ | refine Below.alloc ?_ (by first | exact Nat.le_refl _ | (simp; done) | omega | (simp; omega) | exact (‹_ ∧ _ ∧ Below _ _ _›).2.2.size) _ | refine Below.setCell ?_ (by first | exact Nat.le_refl _ | (simp; done) | omega | (simp; omega) | exact (‹_ ∧ _ ∧ Below _ _ _›).2.2.size) _ | refine Below.trans ?_ (Below.mono (by assumption) (by first | exact Nat.le_refl _ | (simp; done) | omega | (simp; omega) | exact (‹_ ∧ _ ∧ Below _ _ _›).2.2.size)))) : Below B a w := h
theorem upr {B : Nat} {a w : World} (h : Upper B a w := by repeat (first | (with_reducible exact Upper.refl _ _) | (with_reducible refine Upper.drew ?_) | (with_reducible refine Upper.drewN ?_ _) | ((with_reducible refine Upper.setCell ?_ ?hsd _); (case hsd => (first | exact Nat.le_refl _ | (simp; done) | omega | (simp; omega) | exact (‹_ ∧ _ ∧ Below _ _ _›).2.2.size))) | (with_reducible refine Upper.alloc ?_ _) | (with_reducible refine Upper.below ?_ (by with_reducible assumption)) | exact Upper.refl _ _ | refine Upper.drew ?_ | refine Upper.drewN ?_ _ | refine Upper.setCell ?_ (by first | exact Nat.le_refl _ | (simp; done) | omega | (simp; omega) | exact (‹_ ∧ _ ∧ Below _ _ _›).2.2.size) _ | refine Upper.alloc ?_ _ | refine Upper.below ?_ (by assumption))) : Upper B a w := h
theorem own_up {w w' : World} {base base' : Nat} {e : TypeId} {size : Nat} {v : Value} {n : Nat} {xs : List Value} (h : w.ownsRow base e size v n xs) (hu : Upper base w w') (hb : base' ≤ base) : w'.ownsRow base' e size v n xs := by
  refine ⟨h.1, ?_⟩
  rcases h.2 with hn | ⟨g, cap, cur, rfl, hbg, hgg, rest⟩
  · exact .inl hn
  · exact .inr ⟨g, cap, cur, rfl, Nat.le_trans hb hbg, (hu.block g hbg (Array.getElem?_eq_some_iff.1 hgg).1).trans hgg, rest⟩
theorem grown_below {B : Nat} {w w' : World} {row : Option Nat} (hg : w.grownBy w' row) (hr : ∀ k, row = some k → B ≤ k) (hB : B ≤ w.heap.size) : Below B w w' := (Below.refl B w).grown hg hB hr
theorem bcellB {B : Nat} {W w1 : World} (hb : Below B W w1) : (∀ b o, b < B → w1.cell? ⟨b, o, none⟩ = W.cell? ⟨b, o, none⟩) ∧ (∀ b o, b < B → w1.frozen? ⟨b, o, none⟩ = W.frozen? ⟨b, o, none⟩) :=
  ⟨fun b o h => hb.cell (p := ⟨b, o, none⟩) h, fun b o h => hb.frozen (p := ⟨b, o, none⟩) h⟩
theorem own_slice {w : World} {base : Nat} {e : TypeId} {size : Nat} {v : Value} {n : Nat} {xs : List Value} (h : w.ownsRow base e size v n xs) : ∃ A c, v = .slice A n c := by
  rcases h.2 with ⟨rfl, h0⟩ | ⟨g, cap, cur, rfl, _⟩
  · exact ⟨none, 0, by rw [h0]⟩
  · exact ⟨_, _, rfl⟩
section
variable {P : Program} (w : World)
theorem step_append_sl {ops : Array Oper} {o : Oper} {a : Act} {K : Act → World → Prop} {Q : Exit → Act → World → Prop} {E : Prop} (hgd : o.guard = none) (s x : Operand) (t : TypeId)
    (ho : o.op = .call { callee := .builtin .append, args := #[s, x], argTypes := #[t, t] })
    (base : Nat) (e : TypeId) (i : TypeInfo) (z : Value) (size bytes : Nat) (ht : P.underlying t = some (.slice e)) (hi : P.info? e = some i) (hz : i.zero = some z)
    (hsize : i.size = size) (hby : i.bytes = bytes) (hzs : z.cells.size = size) (hsz : 0 < size)
    (v : Value) (n : Nat) (xs : List Value) (hs : a.eval s = v) (hown : w.ownsRow base e size v n xs)
    (B : Nat) (A : Option Addr) (m c : Nat) (news : List Value) (hx : a.eval x = .slice A m c) (hr : Reads w B size A m news) (h1 : ∀ u ∈ news, u.oneCell' = true)
    (h63 : n + m ≤ maxLen) (hbytes : (n + m) * bytes ≤ 140737488355328) (hbase : base ≤ w.heap.size)
    (h : ∀ A' c' w', w'.ownsRow base e size (.slice A' (n + m) c') (n + m) (xs ++ news) → Below base w w' → K (a.put o.dst (.slice A' (n + m) c')) w') :
    if Region.wanted o (yielded ops a.tmps) = true then Oper.wp P o a w K Q else E := by
  refine step_append_any w hgd s x t ho base e i z size bytes ht hi hz hsize hby hzs hsz v n xs hs hown B A m c news hx hr h1 h63 hbytes hbase ?_
  intro v' w' h2 h3 h4
  obtain ⟨A', c', rfl⟩ := own_slice h2
  exact h A' c' w' h2 (grown_below h3 (fun k hk => (hown.lt k hk).1) hbase)
end
theorem bcell {W w1 : World} (hb : Below W.heap.size W w1) : (∀ b o, b < W.heap.size → w1.cell? ⟨b, o, none⟩ = W.cell? ⟨b, o, none⟩) ∧ (∀ b o, b < W.heap.size → w1.frozen? ⟨b, o, none⟩ = W.frozen? ⟨b, o, none⟩) :=
  ⟨fun b o h => hb.cell (p := ⟨b, o, none⟩) h, fun b o h => hb.frozen (p := ⟨b, o, none⟩) h⟩
theorem keep_of {B : Nat} {a W : World} (h : Below B a W) : (∀ b o, b < B → W.cell? ⟨b, o, none⟩ = a.cell? ⟨b, o, none⟩) ∧ (∀ b o, b < B → W.frozen? ⟨b, o, none⟩ = a.frozen? ⟨b, o, none⟩) ∧ Below B a W :=
  ⟨fun b o hb => h.cell (p := ⟨b, o, none⟩) hb, fun b o hb => h.frozen (p := ⟨b, o, none⟩) hb, h⟩
end Go.Proofs.Ytccjedongkokoaa
namespace Go.Proofs.Ytccjedongkokoaa
open Go.ChangeShapes Go.WideShapes Go.ChangeAt Go.RowKit
structure Strs (w : World) (B : Nat) (A : Option Addr) (n : Nat) (ss : List ByteArray) : Prop where
  rd : Reads w B 1 A n (ss.map Value.string)
  nb : n ≤ 16777216
  sb : ∀ s ∈ ss, s.size ≤ 16777216
section
variable {w w' : World} {B B' n : Nat} {A : Option Addr} {ss : List ByteArray}
theorem Strs.len (h : Strs w B A n ss) : ss.length = n := by have := h.rd.1; simpa using this
theorem Strs.at_ {k : Nat} (h : Strs w B A n ss) (hk : k < n) : ∃ (hk' : k < ss.length) (ad : Addr), A = some ad ∧ ad.block < B ∧ w.cell? (ad.add k) = some (.string ss[k]) ∧ ss[k].size ≤ 16777216 := by
  obtain ⟨ad, u, rfl, hb, hx, hc⟩ := h.rd.at_ hk
  have hl := h.len
  have hk' : k < ss.length := by omega
  refine ⟨hk', ad, rfl, hb, ?_, h.sb _ (List.getElem_mem hk')⟩
  rw [hc]
  rw [List.getElem?_map, List.getElem?_eq_getElem hk'] at hx
  simpa using hx.symm
theorem Strs.more (h : Strs w B A n ss) (hB : B ≤ B') : Strs w B' A n ss := ⟨h.rd.more hB, h.nb, h.sb⟩
theorem Strs.below (h : Strs w B A n ss) (hb : Below B w w') : Strs w' B A n ss := ⟨h.rd.below hb, h.nb, h.sb⟩
theorem Strs.alloc (h : Strs w B A n ss) (hB : B ≤ w.heap.size) (o : Obj) : Strs (w.alloc o) B A n ss := ⟨h.rd.alloc hB o, h.nb, h.sb⟩
end
def stripOf (d f : Int) (s : ByteArray) : Bool := (downOf s.data.toList == d) && (forwardOf s.data.toList == f)
def cardOk (d f : Int) (ss : List ByteArray) : Bool := (isStepsB d && isStepsB f) && (inB ss.length 1 10 && ss.all (stripOf d f))
theorem cardOk_no {d f : Int} {ss : List ByteArray} {k : Nat} (hk : k < ss.length) (h : stripOf d f ss[k] = false) : cardOk d f ss = false := by
  have : ss.all (stripOf d f) = false := by
    rw [List.all_eq_false]; exact ⟨ss[k], List.getElem_mem hk, by simp [h]⟩
  unfold cardOk; rw [this]; simp
set_option maxHeartbeats 400000 in
theorem i_CardOk (d f : Int) (A : Option Addr) (n c : Nat) (ss : List ByteArray) (w : World) (hS : Strs w w.heap.size A n ss) :
    Calls Try.prog 47 #[.agg #[.int .i64 d, .int .i64 f, .slice A n c]] w fun e w' => e = .returned (.bool (cardOk d f ss)) ∧ Below w.heap.size w w' := by
  have hn := hS.nb
  go_enter Try.func47, Try.ntmps47
  go_wp2
  go_loopw [4, 8] (fun s i wr => ∃ k m : Nat, k ≤ n ∧ i = .int .i64 k ∧ wr = (w.alloc (.cells #[.int .i64 d, .int .i64 f, .slice A n c] 26)).drewN m ∧ (ss.take k).all (stripOf d f) = true) (fun _ i _ => n - (intOf i).toNat)
  case atStart => exact ⟨0, 0, Nat.zero_le _, rfl, rfl, by simp⟩
  case round =>
    obtain ⟨k, m, hk, rfl, rfl, hall⟩ := hrel
    by_cases hlt : k < n
    · obtain ⟨hk', ad, rfl, hab, hc, hsb⟩ := hS.at_ hlt
      have hab' : ad.block ≠ w.heap.size := by omega
      have hcc : ∀ (o : Obj), (w.alloc o).cell? (ad.add k) = some (.string ss[k]) := fun o => by
        rw [World.cell?_alloc_lt _ _ _ (by rw [block_of_add]; exact hab)]; exact hc
      have hq1 : ∀ W : World, Calls Try.prog 87 #[.string ss[k]] W fun e w' => e = .returned (.int .i64 (downOf ss[k].data.toList)) ∧ W = w' := fun W => i_DownOf _ _ (by unfold maxLen; omega)
      have hq2 : ∀ W : World, Calls Try.prog 88 #[.string ss[k]] W fun e w' => e = .returned (.int .i64 (forwardOf ss[k].data.toList)) ∧ W = w' := fun W => i_ForwardOf _ _ (by unfold maxLen; omega)
      have HQ1 := hide hq1
      have HQ2 := hide hq2
      clear hq1 hq2
      have hts : ss.take (k + 1) = ss.take k ++ [ss[k]] := by rw [List.take_succ_eq_append_getElem hk']
      have HT := Lib.hid hts
      have HA := Lib.hid hall
      clear hts hall
      cases h1 : (downOf ss[k].data.toList != d)
      · cases h2 : (forwardOf ss[k].data.toList != f)
        · go_wp2
          go_quiet (((first | (go_at_call 87; first | exact quiet_left (unhide HQ1 _) | exact quiet_add_left (unhide HQ1 _)) | (go_at_call 88; first | exact quiet_left (unhide HQ2 _) | exact quiet_add_left (unhide HQ2 _)))))
          go_wp2
          go_roundw
          case rel =>
            refine ⟨k + 1, _, by omega, by go_num, rfl, ?_⟩
            rw [HT.out, List.all_append, HA.out]
            simp at h1 h2
            simp [stripOf, h1, h2]
          case measure => simp [intOf]; omega
        · have hfin : cardOk d f ss = false := cardOk_no hk' (by simp at h2; simp [stripOf, h2])
          have HF := Lib.hid hfin
          clear hfin
          go_wp2
          go_quiet (((first | (go_at_call 87; first | exact quiet_left (unhide HQ1 _) | exact quiet_add_left (unhide HQ1 _)) | (go_at_call 88; first | exact quiet_left (unhide HQ2 _) | exact quiet_add_left (unhide HQ2 _)))))
          go_wp2
          go_ret
          exact ⟨ret_bool HF.out.symm, bel⟩
      · have hfin : cardOk d f ss = false := cardOk_no hk' (by simp at h1; simp [stripOf, h1])
        have HF := Lib.hid hfin
        clear hfin
        go_wp2
        go_quiet (((first | (go_at_call 87; first | exact quiet_left (unhide HQ1 _) | exact quiet_add_left (unhide HQ1 _)) | (go_at_call 88; first | exact quiet_left (unhide HQ2 _) | exact quiet_add_left (unhide HQ2 _)))))
        go_wp2
        go_ret
        exact ⟨ret_bool HF.out.symm, bel⟩
    · have hk2 : k = n := by omega
      have hl := hS.len
      have ht : ss.take k = ss := List.take_of_length_le (by omega)
      rw [ht] at hall
      have HA := Lib.hid hall
      have HL := Lib.hid hl
      clear hall ht hl
      subst hk2
      cases h1 : isStepsB d <;> cases h2 : isStepsB f <;> cases h3 : inB k 1 10 <;>
      · go_wp2_with (first | (go_at_call 89; refine (i_isSteps _ _).mono ?_; rintro e w' ⟨rfl, rfl⟩) | (go_at_call 76; refine (i_within _ _ _ _).mono ?_; rintro e w' ⟨rfl, rfl⟩))
        go_ret
        exact ⟨ret_bool (by unfold cardOk; rw [HA.out, HL.out, h1, h2, h3]; rfl), bel⟩
set_option maxHeartbeats 400000 in
theorem s_CardOk (d f : Int) (A : Option Addr) (n c : Nat) (ss : List ByteArray) (w : World) (hS : Strs w w.heap.size A n ss) :
    Calls Try.prog 51 #[.agg #[.int .i64 d, .int .i64 f, .slice A n c]] w fun e w' => e = .returned (.bool (cardOk d f ss)) ∧ Below w.heap.size w w' := by
  have hn := hS.nb
  have hl := hS.len
  cases h1 : (isStepsB d && isStepsB f)
  · have HF : Hid (cardOk d f ss = false) := by unfold Hid cardOk; rw [h1]; rfl
    go_enter Try.func51, Try.ntmps51
    go_wp2_with (first | (go_at_call 94; refine (s_l02Frame _ _ _).mono ?_; rintro e w' ⟨rfl, rfl⟩) | (go_at_call 96; refine (s_l01In _ _ _ _).mono ?_; rintro e w' ⟨rfl, rfl⟩))
    go_ret
    exact ⟨ret_bool HF.out.symm, bel⟩
  · cases h2 : inB n 1 10
    · have HF : Hid (cardOk d f ss = false) := by unfold Hid cardOk; rw [h1, hl, h2]; rfl
      have HL := Lib.hid hl
      clear hl
      go_enter Try.func51, Try.ntmps51
      go_wp2_with (first | (go_at_call 94; refine (s_l02Frame _ _ _).mono ?_; rintro e w' ⟨rfl, rfl⟩) | (go_at_call 96; refine (s_l01In _ _ _ _).mono ?_; rintro e w' ⟨rfl, rfl⟩))
      go_ret
      exact ⟨ret_bool HF.out.symm, bel⟩
    · have HL := Lib.hid hl
      clear hl
      have h1' := Lib.hid h1
      have h2' := Lib.hid h2
      go_enter Try.func51, Try.ntmps51
      go_wp2_with (first | (go_at_call 94; refine (s_l02Frame _ _ _).mono ?_; rintro e w' ⟨rfl, rfl⟩) | (go_at_call 96; refine (s_l01In _ _ _ _).mono ?_; rintro e w' ⟨rfl, rfl⟩))
      go_loopw [3] (fun i wr => ∃ k m : Nat, k ≤ n ∧ i = .int .i64 k ∧ wr = (w.alloc (.cells #[.int .i64 d, .int .i64 f, .slice A n c] 26)).drewN m ∧ (ss.take k).all (stripOf d f) = true) (fun i _ => n - (intOf i).toNat)
      case atStart => exact ⟨0, 0, Nat.zero_le _, rfl, rfl, by simp⟩
      case round =>
        obtain ⟨k, m, hk, rfl, rfl, hall⟩ := hrel
        by_cases hlt : k < n
        · obtain ⟨hk', ad, rfl, hab, hc, hsb⟩ := hS.at_ hlt
          have hab' : ad.block ≠ w.heap.size := by omega
          have hcc : ∀ (o : Obj), (w.alloc o).cell? (ad.add k) = some (.string ss[k]) := fun o => by
            rw [World.cell?_alloc_lt _ _ _ (by rw [block_of_add]; exact hab)]; exact hc
          have hq1 : ∀ W : World, Calls Try.prog 97 #[.string ss[k]] W fun e w' => e = .returned (.int .i64 (downOf ss[k].data.toList)) ∧ W = w' := fun W => s_DownOf _ _ (by unfold maxLen; omega)
          have hq2 : ∀ W : World, Calls Try.prog 98 #[.string ss[k]] W fun e w' => e = .returned (.int .i64 (forwardOf ss[k].data.toList)) ∧ W = w' := fun W => s_ForwardOf _ _ (by unfold maxLen; omega)
          have HQ1 := hide hq1
          have HQ2 := hide hq2
          clear hq1 hq2
          have hts : ss.take (k + 1) = ss.take k ++ [ss[k]] := by rw [List.take_succ_eq_append_getElem hk']
          have HT := Lib.hid hts
          have HA := Lib.hid hall
          clear hts hall
          cases h3 : (downOf ss[k].data.toList != d)
          · cases h4 : (forwardOf ss[k].data.toList != f)
            · go_wp2
              go_quiet (((first | (go_at_call 97; first | exact quiet_left (unhide HQ1 _) | exact quiet_add_left (unhide HQ1 _)) | (go_at_call 98; first | exact quiet_left (unhide HQ2 _) | exact quiet_add_left (unhide HQ2 _)))))
              go_wp2
              go_roundw
              case rel =>
                refine ⟨k + 1, _, by omega, by go_num, rfl, ?_⟩
                rw [HT.out, List.all_append, HA.out]
                simp at h3 h4
                simp [stripOf, h3, h4]
              case measure => simp [intOf]; omega
            · have hfin : cardOk d f ss = false := cardOk_no hk' (by simp at h4; simp [stripOf, h4])
              have HF := Lib.hid hfin
              clear hfin
              go_wp2
              go_quiet (((first | (go_at_call 97; first | exact quiet_left (unhide HQ1 _) | exact quiet_add_left (unhide HQ1 _)) | (go_at_call 98; first | exact quiet_left (unhide HQ2 _) | exact quiet_add_left (unhide HQ2 _)))))
              go_wp2
              go_ret
              exact ⟨ret_bool HF.out.symm, bel⟩
          · have hfin : cardOk d f ss = false := cardOk_no hk' (by simp at h3; simp [stripOf, h3])
            have HF := Lib.hid hfin
            clear hfin
            go_wp2
            go_quiet (((first | (go_at_call 97; first | exact quiet_left (unhide HQ1 _) | exact quiet_add_left (unhide HQ1 _)) | (go_at_call 98; first | exact quiet_left (unhide HQ2 _) | exact quiet_add_left (unhide HQ2 _)))))
            go_wp2
            go_ret
            exact ⟨ret_bool HF.out.symm, bel⟩
        · have hk2 : k = n := by omega
          have ht : ss.take k = ss := List.take_of_length_le (by have := HL.out; omega)
          rw [ht] at hall
          have HF : Hid (cardOk d f ss = true) := by unfold Hid cardOk; rw [h1'.out, HL.out, h2'.out, hall]; rfl
          clear hall ht
          subst hk2
          go_wp2
          go_ret
          exact ⟨ret_bool HF.out.symm, bel⟩
end Go.Proofs.Ytccjedongkokoaa
namespace Go.Proofs.Ytccjedongkokoaa
open Go.ChangeShapes Go.WideShapes Go.ChangeAt Go.RowKit
set_option linter.unusedVariables false
set_option maxRecDepth 10000
def digs : Nat → Nat → List UInt8 → List UInt8
  | 0, _, acc => acc
  | f + 1, k, acc => if k = 0 then acc else digs f (k / 10) ((48 + k % 10).toUInt8 :: acc)
theorem digs_zero (f : Nat) (acc : List UInt8) : digs f 0 acc = acc := by cases f <;> simp [digs]
def markL (k : Int) : List UInt8 := if k ≤ 0 then [109, 48] else 109 :: digs k.toNat k.toNat []
def markT (k : Int) : ByteArray := ⟨(markL k).toArray⟩
theorem size_one (x : UInt8) : (⟨#[x]⟩ : ByteArray).size = 1 := rfl
theorem conv_one (x : Int) (W : World) (h0 : 0 ≤ x) (h1 : x ≤ 255) :
    (convert 22 9 (.slice (some ⟨W.heap.size, 0, none⟩) 1 1)).run Try.prog (W.alloc (.cells #[.int .u8 x] 5)) = .ok (.string ⟨#[x.toNat.toUInt8]⟩) (W.alloc (.cells #[.int .u8 x] 5)) := by
  have h := run_convert_bytes_back (P := Try.prog) (W.alloc (.cells #[.int .u8 x] 5)) 22 9 5 ⟨W.heap.size, 0, none⟩ 1 [x.toNat.toUInt8] Try.underlying22 Try.underlying5 Try.underlying9
    (fun j hj => by
      have : j = 0 := by simp at hj; omega
      subst this
      show (W.alloc (.cells #[.int .u8 x] 5)).cell? ⟨W.heap.size, 0, none⟩ = _
      rw [World.cell?_alloc_mark]
      obtain ⟨X, rfl⟩ := Int.eq_ofNat_of_zero_le h0
      have hX : X < 256 := by omega
      simp [Nat.mod_eq_of_lt hX])
  exact h
set_option maxHeartbeats 400000 in
theorem l_markText (k : Int) (w : World) (hk0 : 0 ≤ k) (hk1 : k ≤ 1152921504606846976) :
    Calls Try.prog 82 #[.int .i64 k] w fun e w' => e = .returned (.string (markT k)) ∧ Below w.heap.size w w' := by
  by_cases hz : k ≤ 0
  · have HF : Hid (markT k = ⟨#[109, 48]⟩) := by unfold Hid markT markL; rw [if_pos hz]
    go_enter Try.func82, Try.ntmps82
    go_wp2
    go_ret
    exact ⟨ret_str HF.out.symm, Below.refl _ _⟩
  · obtain ⟨K, rfl⟩ := Int.eq_ofNat_of_zero_le hk0
    have HF : Hid (markT K = ⟨(109 :: digs K K []).toArray⟩) := by unfold Hid markT markL; rw [if_neg hz]; simp
    go_enter Try.func82, Try.ntmps82
    go_wp2
    go_loopw [0, 3] (fun n o wr => ∃ (q f : Nat) (acc : ByteArray), n = .int .i64 q ∧ acc.size + q ≤ K ∧ q ≤ f ∧ o = .string acc ∧ Hid (digs f q acc.data.toList = digs K K []) ∧ Below w.heap.size w wr) (fun n _ _ => (intOf n).toNat)
    case atStart => exact ⟨K, K, _, rfl, by show 0 + K ≤ K; omega, Nat.le_refl _, rfl, by unfold Hid; rfl, Below.refl _ _⟩
    case round =>
      obtain ⟨q, f, acc, rfl, hq, hf, rfl, HD, hb⟩ := hrel
      have hbs := hb.size
      by_cases h0 : 0 < q
      · have hcv := conv_one (48 + (q : Int) % 10) wr (by omega) (by omega)
        go_wp2
        go_roundw
        case rel =>
          obtain ⟨f', rfl⟩ : ∃ f', f = f' + 1 := ⟨f - 1, by omega⟩
          refine ⟨q / 10, f', _, by go_num, by rw [ByteArray.size_append, size_one]; omega, by omega, rfl, ?_, bel⟩
          have h := HD.out
          simp only [digs] at h
          rw [if_neg (by omega)] at h
          unfold Hid
          rw [← h]
          congr 1
          simp
        case measure => simp [intOf]; omega
      · have hq0 : q = 0 := by omega
        subst hq0
        have HE : Hid (markT K = ⟨(109 :: acc.data.toList).toArray⟩) := by
          unfold Hid; rw [HF.out, ← HD.out, digs_zero]
        go_wp2
        go_ret
        exact ⟨ret_str (by rw [HE.out]; apply ba_ext; simp [ByteArray.data_append]), hb⟩
theorem own_cell {w : World} {base : Nat} {e : TypeId} {g n c j : Nat} {xs : List Value} (h : w.ownsRow base e 1 (.slice (some ⟨g, 0, none⟩) n c) n xs) (hj : j < n) : ∃ u, w.cell? ⟨g, j, none⟩ = some u := by
  have hl := h.1
  rw [h.cellAt j (by omega), List.getElem?_eq_getElem (by omega)]
  exact ⟨_, rfl⟩
def marks (k : Int) (n : Nat) : List Value := (List.range n).map fun i => Value.string (markT (k + (i : Nat)))
theorem marks_len (k : Int) (n : Nat) : (marks k n).length = n := by simp [marks]
theorem marks_succ (k : Int) (n : Nat) : marks k (n + 1) = marks k n ++ [.string (markT (k + n))] := by
  simp [marks, List.range_succ]
theorem marks_step (k : Int) (i : Nat) (xs : List Value) (hi : i < xs.length) : (marks k i ++ xs.drop i).set i (.string (markT (k + i))) = marks k (i + 1) ++ xs.drop (i + 1) := by
  rw [marks_succ, List.set_append, if_neg (by simp [marks_len]), marks_len, Nat.sub_self, List.drop_eq_getElem_cons hi, List.set_cons_zero, List.append_assoc]
  rfl
def Marked (base : Nat) (v : Value) (n : Nat) (k : Int) (w : World) (e : Ending) (w' : World) : Prop :=
  e = .returned (.int .i64 (k + n)) ∧ w'.ownsRow base 9 1 v n (marks k n) ∧ w.grownBy w' v.ownBlock
set_option maxHeartbeats 400000 in
theorem l_markStringS (base : Nat) (A : Option Addr) (n c : Nat) (xs : List Value) (k : Int) (w : World) (hO : w.ownsRow base 9 1 (.slice A n c) n xs) (hk0 : 0 ≤ k) (hk1 : k ≤ 4503599627370496) (hn : n ≤ 16777216) :
    Calls Try.prog 83 #[.slice A n c, .int .i64 k] w (Marked base (.slice A n c) n k w) := by
  go_enter Try.func83, Try.ntmps83
  go_wp2
  go_loopw [1, 5] (fun q i wr => ∃ j : Nat, j ≤ n ∧ i = .int .i64 j ∧ q = .int .i64 (k + j) ∧ wr.ownsRow base 9 1 (.slice A n c) n (marks k j ++ xs.drop j) ∧ w.grownBy wr (Value.slice A n c).ownBlock) (fun _ i _ => n - (intOf i).toNat)
  case atStart => exact ⟨0, Nat.zero_le _, rfl, by go_num, by simpa [marks] using hO, World.grownBy.refl w _⟩
  case round =>
    obtain ⟨j, hj, rfl, rfl, hown, hg⟩ := hrel
    by_cases hlt : j < n
    · obtain ⟨g, cap, hv, hbg, hglt⟩ := hown.form (by omega)
      have hA : A = some ⟨g, 0, none⟩ := by injection hv
      subst hA
      clear hv
      have hlen : (marks k j ++ xs.drop j).length = n := by have := hown.1; omega
      have hxl : xs.length = n := by have := hO.1; omega
      have HX := Lib.hid hxl
      have HL := Lib.hid hlen
      clear hlen hxl
      go_wp2_with (go_at_call 82; refine (l_markText _ _ (by omega) (by omega)).mono ?_; rintro e w1 ⟨rfl, hb1⟩; have ho1 := own_below hown hb1; obtain ⟨u1, hc1⟩ := own_cell ho1 (j := j) (by omega); have hf1 := ho1.frozenAt j)
      go_roundw
      case rel =>
        have hst := ho1.stored j (.string (markT (k + j)))
        refine ⟨j + 1, by omega, by go_num, by go_num, ?_, ?_⟩
        · rw [← marks_step k j xs (by have := HX.out; omega)]; exact hst.1
        · exact only_trans (only_below hg hb1) hst.2
      case measure => simp [intOf]; omega
    · have hjn : j = n := by omega
      subst hjn
      have hxl : xs.length = j := by have := hO.1; omega
      have hd : xs.drop j = [] := List.drop_eq_nil_of_le (by omega)
      rw [hd, List.append_nil] at hown
      clear hd hxl
      go_wp2
      go_ret
      exact ⟨rfl, hown, hg⟩
def eqSS (ss ts : List ByteArray) : Bool := decide (ss = ts)
theorem beq_toList_true {a b : ByteArray} (h : a = b) : (a.toList == b.toList) = true := by rw [h]; simp
theorem toList_inj {a b : ByteArray} (h : a.toList = b.toList) : a = b := by
  rw [ByteArray.toList_eq, ByteArray.toList_eq] at h
  exact ba_ext h
theorem beq_toList_false {a b : ByteArray} (h : a ≠ b) : (a.toList == b.toList) = false := by
  rw [beq_eq_false_iff_ne]; exact fun h' => h (toList_inj h')
set_option maxHeartbeats 400000 in
theorem l_eqStringS (B : Nat) (A1 A2 : Option Addr) (n1 n2 c1 c2 : Nat) (ss ts : List ByteArray) (w : World) (h1 : Strs w B A1 n1 ss) (h2 : Strs w B A2 n2 ts) (hB : B ≤ w.heap.size) :
    Calls Try.prog 145 #[.slice A1 n1 c1, .slice A2 n2 c2] w fun e w' => e = .returned (.bool (eqSS ss ts)) ∧ Below w.heap.size w w' := by
  have hl1 := h1.len
  have hl2 := h2.len
  have hn1 := h1.nb
  have hn2 := h2.nb
  by_cases hn : n1 = n2
  · subst hn
    have HL1 := Lib.hid hl1
    have HL2 := Lib.hid hl2
    clear hl1 hl2
    go_enter Try.func145, Try.ntmps145
    go_wp2
    go_loopw [5] (fun i wr => ∃ j m : Nat, j ≤ n1 ∧ i = .int .i64 j ∧ wr = w.drewN m ∧ Hid (ss.take j = ts.take j)) (fun i _ => n1 - (intOf i).toNat)
    case atStart => exact ⟨0, 0, Nat.zero_le _, rfl, rfl, by unfold Hid; simp⟩
    case round =>
      obtain ⟨j, m, hj, rfl, rfl, HT⟩ := hrel
      by_cases hlt : j < n1
      · obtain ⟨hk1, ad1, rfl, hab1, hc1, _⟩ := h1.at_ hlt
        obtain ⟨hk2, ad2, rfl, hab2, hc2, _⟩ := h2.at_ hlt
        by_cases he : ss[j] = ts[j]
        · have HE := Lib.hid he
          have hbq := beq_toList_true he
          clear he
          go_wp2
          go_quiet (fail)
          go_wp2
          go_roundw
          case rel =>
            refine ⟨j + 1, _, by omega, by go_num, rfl, ?_⟩
            unfold Hid
            rw [List.take_succ_eq_append_getElem hk1, List.take_succ_eq_append_getElem hk2, HT.out, HE.out]
          case measure => simp [intOf]; omega
        · have HF : Hid (eqSS ss ts = false) := by
            unfold Hid eqSS
            rw [decide_eq_false_iff_not]
            intro h; subst h; exact he rfl
          have hbq := beq_toList_false he
          clear he
          go_wp2
          go_quiet (fail)
          go_wp2
          go_ret
          exact ⟨ret_bool HF.out.symm, bel⟩
      · have HF : Hid (eqSS ss ts = true) := by
          unfold Hid eqSS
          rw [decide_eq_true_iff]
          have h := HT.out
          rw [List.take_of_length_le (by have := HL1.out; omega), List.take_of_length_le (by have := HL2.out; omega)] at h
          exact h
        go_wp2
        go_ret
        exact ⟨ret_bool HF.out.symm, bel⟩
  · have HF : Hid (eqSS ss ts = false) := by
      unfold Hid eqSS
      rw [decide_eq_false_iff_not]
      intro h; subst h; omega
    clear hl1 hl2
    go_enter Try.func145, Try.ntmps145
    go_wp2
    go_ret
    exact ⟨ret_bool HF.out.symm, bel⟩
set_option maxHeartbeats 400000 in
theorem l_eqCard (B : Nat) (d1 f1 d2 f2 : Int) (A1 A2 : Option Addr) (n1 n2 c1 c2 : Nat) (ss ts : List ByteArray) (w : World) (h1 : Strs w B A1 n1 ss) (h2 : Strs w B A2 n2 ts) (hB : B ≤ w.heap.size) :
    Calls Try.prog 123 #[.agg #[.int .i64 d1, .int .i64 f1, .slice A1 n1 c1], .agg #[.int .i64 d2, .int .i64 f2, .slice A2 n2 c2]] w fun e w' => e = .returned (.bool (((d1 == d2) && (f1 == f2)) && eqSS ss ts)) ∧ Below w.heap.size w w' := by
  cases he : eqSS ss ts <;> cases hd : (d1 == d2) <;> cases hf : (f1 == f2) <;>
  · have hd' : (d1 != d2) = !(d1 == d2) := rfl
    have hf' : (f1 != f2) = !(f1 == f2) := rfl
    rw [hd] at hd'
    rw [hf] at hf'
    simp only [Bool.not_true, Bool.not_false] at hd' hf'
    go_enter Try.func123, Try.ntmps123
    go_wp2_with (go_at_call 145; refine (l_eqStringS B _ _ _ _ _ _ _ _ _ ((h1.alloc hB _).alloc (by simp; omega) _) ((h2.alloc hB _).alloc (by simp; omega) _) (by simp; omega)).mono ?_; rintro e w1 ⟨rfl, hb1⟩)
    go_ret
    exact ⟨rfl, bel⟩
def tot : List ByteArray → Nat
  | [] => 0
  | s :: r => s.size + tot r
theorem tot_append (a b : List ByteArray) : tot (a ++ b) = tot a + tot b := by
  induction a with
  | nil => simp [tot]
  | cons x r ih => simp only [List.cons_append, tot, ih]; omega
theorem tot_mem {s : ByteArray} {l : List ByteArray} (h : s ∈ l) : s.size ≤ tot l := by
  induction l with
  | nil => cases h
  | cons x r ih =>
    rcases List.mem_cons.1 h with rfl | h
    · simp only [tot]; omega
    · have := ih h; simp only [tot]; omega
def szStrs (ss : List ByteArray) (left : Int) : Int := if left - ss.length - tot ss < 0 then -1 else left - ss.length - tot ss
set_option maxHeartbeats 400000 in
theorem l_szStringS (B : Nat) (A : Option Addr) (n c : Nat) (ss : List ByteArray) (left : Int) (w : World) (hR : Reads w B 1 A n (ss.map Value.string)) (hn : n ≤ 9223372036854775807) (hs : ∀ s ∈ ss, s.size ≤ 9223372036854775807) (h0 : -1 ≤ left) (h1 : left ≤ 1048576) :
    Calls Try.prog 143 #[.slice A n c, .int .i64 left] w fun e w' => e = .returned (.int .i64 (szStrs ss left)) ∧ w = w' := by
  have hl : ss.length = n := by have := hR.1; simpa using this
  by_cases hlt : left - n < 0
  · have HF : Hid (szStrs ss left = -1) := by unfold Hid szStrs; rw [if_pos (by omega)]
    have HL := Lib.hid hl
    clear hl
    go_enter Try.func143, Try.ntmps143
    go_wp2
    go_ret
    exact ⟨ret_int HF.out.symm, rfl⟩
  · have HL := Lib.hid hl
    clear hl
    go_enter Try.func143, Try.ntmps143
    go_wp2
    go_loop [1, 5] (fun q i => ∃ j : Nat, j ≤ n ∧ i = .int .i64 j ∧ q = .int .i64 (left - n - tot (ss.take j)) ∧ 0 ≤ left - n - tot (ss.take j)) (fun _ i => n - (intOf i).toNat)
    case atStart => exact ⟨0, Nat.zero_le _, rfl, by simp [tot], by simp [tot]; omega⟩
    case round =>
      obtain ⟨j, hj, rfl, rfl, hpos⟩ := hrel
      by_cases hjn : j < n
      · obtain ⟨ad, u, rfl, hab, hx, hc⟩ := hR.at_ hjn
        have hk1 : j < ss.length := by have := HL.out; omega
        have hu : u = .string ss[j] := by
          rw [List.getElem?_map, List.getElem?_eq_getElem hk1] at hx; simpa using hx.symm
        subst hu
        have hsz := hs _ (List.getElem_mem hk1)
        have htk : tot (ss.take (j + 1)) = tot (ss.take j) + ss[j].size := by
          rw [List.take_succ_eq_append_getElem hk1, tot_append]; simp [tot]
        have HT := Lib.hid htk
        clear htk hx
        by_cases hneg : left - n - tot (ss.take j) - ss[j].size < 0
        · have HF : Hid (szStrs ss left = -1) := by
            unfold Hid szStrs
            have h2 : tot ss = tot (ss.take (j + 1)) + tot (ss.drop (j + 1)) := by rw [← tot_append, List.take_append_drop]
            have h3 := HT.out
            have h4 := HL.out
            rw [if_pos (by omega)]
          go_wp2
          go_ret
          exact ⟨ret_int HF.out.symm, rfl⟩
        · go_wp2
          go_round
          case rel => exact ⟨j + 1, by omega, by go_num, by rw [HT.out]; congr 1; omega, by rw [HT.out]; omega⟩
          case measure => simp [intOf]; omega
      · have HF : Hid (szStrs ss left = left - n - tot (ss.take j)) := by
          unfold Hid szStrs
          have h4 := HL.out
          rw [List.take_of_length_le (by omega)] at hpos ⊢
          rw [h4, if_neg (by omega)]
        go_wp2
        go_ret
        exact ⟨ret_int HF.out.symm, rfl⟩
set_option maxHeartbeats 400000 in
theorem l_szCard (d f : Int) (B : Nat) (A : Option Addr) (n c : Nat) (ss : List ByteArray) (left : Int) (w : World) (hB : B ≤ w.heap.size) (hR : Reads w B 1 A n (ss.map Value.string)) (hn : n ≤ 9223372036854775807) (hs : ∀ s ∈ ss, s.size ≤ 9223372036854775807) (h0 : -1 ≤ left) (h1 : left ≤ 1048576) :
    Calls Try.prog 120 #[.agg #[.int .i64 d, .int .i64 f, .slice A n c], .int .i64 left] w fun e w' => e = .returned (.int .i64 (szStrs ss left)) ∧ Below w.heap.size w w' := by
  have hr : -1 ≤ szStrs ss left := by unfold szStrs; split <;> omega
  by_cases h : szStrs ss left < 0
  · have HF : Hid (szStrs ss left = -1) := by unfold Hid; omega
    go_enter Try.func120, Try.ntmps120
    go_wp2_with (go_at_call 143; refine (l_szStringS B _ _ _ _ _ _ (hR.alloc hB _) hn hs h0 h1).mono ?_; rintro e w' ⟨rfl, rfl⟩)
    go_ret
    exact ⟨ret_int HF.out.symm, bel⟩
  · go_enter Try.func120, Try.ntmps120
    go_wp2_with (go_at_call 143; refine (l_szStringS B _ _ _ _ _ _ (hR.alloc hB _) hn hs h0 h1).mono ?_; rintro e w' ⟨rfl, rfl⟩)
    go_ret
    exact ⟨rfl, bel⟩
theorem info_str : (Try.prog.info? 9).map (fun i => (i.zero, i.size, i.bytes)) = some (some (.string ByteArray.empty), 1, 16) := by kernel_rfl
def FreshStrs (base : Nat) (ss : List ByteArray) (w : World) (e : Ending) (w' : World) : Prop :=
  ∃ A c, e = .returned (.slice A ss.length c) ∧ w'.ownsRow base 9 1 (.slice A ss.length c) ss.length (ss.map Value.string) ∧ Below w.heap.size w w'
set_option maxHeartbeats 400000 in
theorem l_toStringS (B : Nat) (A : Option Addr) (n c : Nat) (ss : List ByteArray) (w : World) (hS : Strs w B A n ss) (hB : B ≤ w.heap.size) :
    Calls Try.prog 144 #[.slice A n c] w (FreshStrs w.heap.size ss w) := by
  have hn := hS.nb
  have hl := hS.len
  have HL := Lib.hid hl
  clear hl
  obtain ⟨i0, hi0, hz0, hz1, hz2⟩ := info_parts info_str
  have hmk := run_make_rowN (P := Try.prog) 24 9 i0 _ Try.underlying24 hi0 hz0 .i64 .i64 n n (Nat.le_refl _) (by rw [hz2]; omega) (by omega) w
  go_enter Try.func144, Try.ntmps144
  go_wp2
  go_loopw [4] (fun i wr => ∃ j : Nat, j ≤ n ∧ i = .int .i64 j ∧ wr.ownsRow w.heap.size 9 1 (.slice (some ⟨w.heap.size, 0, none⟩) n n) n ((ss.take j).map Value.string ++ List.replicate (n - j) (.string ByteArray.empty)) ∧ Below w.heap.size w wr) (fun i _ => n - (intOf i).toNat)
  case atStart =>
    refine ⟨0, Nat.zero_le _, rfl, ?_, bel⟩
    have h := World.ownsRow_lit (w := w) (base := w.heap.size) (e := 9) (size := 1) (madeCells #[Value.string ByteArray.empty] n) n (Nat.le_refl _) (by unfold maxLen; omega) (by simp [madeCells])
    rw [toList_madeCells_one] at h
    simpa using h
  case round =>
    obtain ⟨j, hj, rfl, hown, hb⟩ := hrel
    by_cases hlt : j < n
    · obtain ⟨hk1, ad, rfl, hab, hc, hsb⟩ := hS.at_ hlt
      have hc' : wr.cell? (ad.add j) = some (.string ss[j]) := by rw [hb.cell (by rw [block_of_add]; omega)]; exact hc
      obtain ⟨u1, hc1⟩ := own_cell hown (j := j) hlt
      have hf1 := hown.frozenAt j
      go_wp2
      go_roundw
      case rel =>
        have hst := hown.stored j (.string ss[j])
        refine ⟨j + 1, by omega, by go_num, ?_, only_below_B hb hst.2⟩
        have he : ((ss.take j).map Value.string ++ List.replicate (n - j) (Value.string ByteArray.empty)).set j (Value.string ss[j]) = (ss.take (j + 1)).map Value.string ++ List.replicate (n - (j + 1)) (.string ByteArray.empty) := by
          have hlj : ((ss.take j).map Value.string).length = j := by rw [List.length_map, List.length_take]; omega
          rw [List.set_append, if_neg (by rw [hlj]; omega), hlj, Nat.sub_self, show n - j = (n - (j + 1)) + 1 from by omega, List.replicate_succ, List.set_cons_zero, List.take_succ_eq_append_getElem hk1, List.map_append, List.append_assoc]
          rfl
        rw [← he]; exact hst.1
      case measure => simp [intOf]; omega
    · have hjn : j = n := by omega
      subst hjn
      have hE : (ss.take j).map Value.string ++ List.replicate (j - j) (.string ByteArray.empty) = ss.map Value.string := by
        rw [List.take_of_length_le (by have := HL.out; omega)]; simp
      rw [hE] at hown
      clear hE
      have HO := hide hown
      clear hown
      go_wp2
      go_ret
      have hl := HL.out
      subst hl
      exact ⟨_, _, rfl, unhide HO, hb⟩
def FreshCard (base : Nat) (d f : Int) (ss : List ByteArray) (w : World) (e : Ending) (w' : World) : Prop :=
  ∃ A c, e = .returned (.agg #[.int .i64 d, .int .i64 f, .slice A ss.length c]) ∧ w'.ownsRow base 9 1 (.slice A ss.length c) ss.length (ss.map Value.string) ∧ Below w.heap.size w w'
set_option maxHeartbeats 400000 in
theorem l_toCard (d f : Int) (B : Nat) (A : Option Addr) (n c : Nat) (ss : List ByteArray) (w : World) (hS : Strs w B A n ss) (hB : B ≤ w.heap.size) :
    Calls Try.prog 122 #[.agg #[.int .i64 d, .int .i64 f, .slice A n c]] w (FreshCard w.heap.size d f ss w) := by
  go_enter Try.func122, Try.ntmps122
  go_wp2_with (go_at_call 144; refine (l_toStringS B _ _ _ _ _ (((hS.alloc hB _).alloc (by simp; omega) _).alloc (by simp; omega) _) (by simp; omega)).mono ?_; rintro e w1 ⟨A1, c1, rfl, ho1, hb1⟩; obtain ⟨hcb, hfb⟩ := bcell hb1)
  refine bodyPost_ret (v := .agg #[.int .i64 d, .int .i64 f, .slice A1 ss.length c1]) (by simp [results, Try.results122, go_sem, hcb]) rfl ?_
  exact ⟨A1, c1, rfl, own_up ho1 upr (by first | exact Nat.le_refl _ | (simp; done) | omega | (simp; omega) | exact (‹_ ∧ _ ∧ Below _ _ _›).2.2.size), bel⟩
end Go.Proofs.Ytccjedongkokoaa
namespace Go.Proofs.Ytccjedongkokoaa
open Go.ChangeShapes Go.WideShapes Go.ChangeAt Go.RowKit
set_option linter.unusedVariables false
theorem made_at {e : TypeId} {size : Nat} (W : World) (base k : Nat) (hk : W.heap.size = k) (hb : base ≤ k) : (W.alloc (.cells #[] e)).ownsRow base e size (.slice (some ⟨k, 0, none⟩) 0 0) 0 [] := by
  subst hk
  exact World.ownsRow_made W #[] 0 hb (by unfold maxLen; omega) (by simp)
theorem fresh_of {base n : Nat} {v : Value} {ss : List ByteArray} {w w' : World} (hl : ss.length = n) (ho : w'.ownsRow base 9 1 v n (ss.map Value.string)) (hb : Below w.heap.size w w') : FreshStrs base ss w (.returned v) w' := by
  subst hl
  rcases ho.2 with ⟨rfl, h0⟩ | ⟨g, cap, cur, rfl, _⟩
  · rw [h0] at ho
    refine ⟨none, 0, by rw [h0], ?_, hb⟩
    rw [h0]; exact ho
  · exact ⟨_, _, rfl, ho, hb⟩
set_option maxHeartbeats 400000 in
theorem clone_str (B : Nat) (A : Option Addr) (n c : Nat) (ss : List ByteArray) (w : World) (hS : Strs w B A n ss) (hB : B ≤ w.heap.size) :
    Calls Try.prog 99 #[.slice A n c] w (FreshStrs w.heap.size ss w) := by
  have hn := hS.nb
  have hl := hS.len
  have hR := hS.rd
  rcases A with _ | ad
  · have hn0 : n = 0 := by
      rcases Nat.eq_zero_or_pos n with h0 | h0
      · exact h0
      · obtain ⟨_, ad, h, _⟩ := hS.at_ h0; cases h
    subst hn0
    have hs0 : ss = [] := List.eq_nil_of_length_eq_zero hl
    subst hs0
    have hnil := fun W => Lib.run_eql_slice_nil (P := Try.prog) W 24
    clear hl
    go_enter Try.func99, Try.ntmps99
    go_wp2
    go_ret
    exact ⟨none, 0, rfl, World.ownsRow_nil w _ _ _, Below.refl _ _⟩
  · have hnil := fun W => Lib.run_eql_slice_nil (P := Try.prog) W 24
    obtain ⟨i0, hi0, hz0, hz1, hz2⟩ := info_parts info_str
    have hown : (w.alloc (.cells #[] 9)).ownsRow w.heap.size 9 1 (.slice (some ⟨w.heap.size, 0, none⟩) 0 0) 0 [] := World.ownsRow_made w #[] 0 (Nat.le_refl _) (by unfold maxLen; omega) rfl
    have hR1 := hR.alloc hB (.cells #[] 9)
    have hone : ∀ u ∈ ss.map Value.string, u.oneCell' = true := by
      intro u hu; obtain ⟨s, _, rfl⟩ := List.mem_map.1 hu; rfl
    have HL := Lib.hid hl
    clear hl
    go_enter Try.func99, Try.ntmps99
    go_wp2_with (at_builtin; refine wpList_append_any _ rfl (.tmp 5) (.tmp 6) _ rfl w.heap.size 9 i0 _ 1 16 Try.underlying24 hi0 hz0 hz1 hz2 rfl (by omega) (.slice (some ⟨w.heap.size, 0, none⟩) 0 0) 0 [] rfl hown B (some ad) n c (ss.map Value.string) rfl hR1 hone ?_ ?_ ?_ ?_; (unfold maxLen; omega); omega; (simp); intro v1 w1 hown1 hg1 hat1)
    have hfr := fresh_of (ss := ss) (n := n) HL.out (by simpa using hown1) (((Below.refl _ _).alloc (Nat.le_refl _) _).grown hg1 (by simp) (by intro k hk; simp [Value.ownBlock] at hk; omega))
    have HFR := hide hfr
    clear hfr hown1 hg1 hat1
    go_ret
    exact (unhide HFR)
set_option maxHeartbeats 400000 in
theorem i_copied (d f : Int) (B : Nat) (A : Option Addr) (n c : Nat) (ss : List ByteArray) (w : World) (hS : Strs w B A n ss) (hB : B ≤ w.heap.size) :
    Calls Try.prog 52 #[.agg #[.int .i64 d, .int .i64 f, .slice A n c]] w (FreshCard w.heap.size d f ss w) := by
  have hS2 := (hS.alloc hB (.cells #[.int .i64 d, .int .i64 f, .slice A n c] 26)).alloc (by simp; omega) (.cells #[.int .i64 0, .int .i64 0, .slice none 0 0] 26)
  have hB2 : B ≤ ((w.alloc (.cells #[.int .i64 d, .int .i64 f, .slice A n c] 26)).alloc (.cells #[.int .i64 0, .int .i64 0, .slice none 0 0] 26)).heap.size := by simp; omega
  go_enter Try.func52, Try.ntmps52
  go_wp2
  go_region_held3 (fun W => (∀ b o, b < w.heap.size + 1 → W.cell? ⟨b, o, none⟩ = ((w.alloc (.cells #[.int .i64 d, .int .i64 f, .slice A n c] 26)).alloc (.cells #[.int .i64 0, .int .i64 0, .slice none 0 0] 26)).cell? ⟨b, o, none⟩) ∧ (∀ b o, b < w.heap.size + 1 → W.frozen? ⟨b, o, none⟩ = ((w.alloc (.cells #[.int .i64 d, .int .i64 f, .slice A n c] 26)).alloc (.cells #[.int .i64 0, .int .i64 0, .slice none 0 0] 26)).frozen? ⟨b, o, none⟩) ∧ Below (w.heap.size + 1) ((w.alloc (.cells #[.int .i64 d, .int .i64 f, .slice A n c] 26)).alloc (.cells #[.int .i64 0, .int .i64 0, .slice none 0 0] 26)) W) (exact keep_of bel) (first | (go_at_call 99; have hq := (‹_ ∧ _ ∧ Below _ _ _›).2.2; refine (clone_str B _ _ _ ss _ ?_ ?_).mono ?_; exact hS2.below (hq.mono (by omega)); exact Nat.le_trans hB2 hq.size; rintro e w1 ⟨A1, c1, rfl, ho1, hb1⟩; obtain ⟨hcb, hfb⟩ := bcell hb1))
  go_wp2
  refine bodyPost_ret (v := .agg #[.int .i64 d, .int .i64 f, .slice A1 ss.length c1]) (by simp [results, Try.results52, go_sem, hcb]) rfl ?_
  exact ⟨A1, c1, rfl, own_up ho1 upr (by first | exact Nat.le_refl _ | (simp; done) | omega | (simp; omega) | exact (‹_ ∧ _ ∧ Below _ _ _›).2.2.size), bel⟩
end Go.Proofs.Ytccjedongkokoaa
namespace Go.Proofs.Ytccjedongkokoaa
open Go.ChangeShapes Go.WideShapes Go.ChangeAt Go.RowKit
set_option linter.unusedVariables false
def FreshCardB (base : Nat) (d f : Int) (ss : List ByteArray) (b : Bool) (w : World) (e : Ending) (w' : World) : Prop :=
  ∃ A c, e = .returned (.tuple #[.agg #[.int .i64 d, .int .i64 f, .slice A ss.length c], .bool b]) ∧ w'.ownsRow base 9 1 (.slice A ss.length c) ss.length (ss.map Value.string) ∧ Below w.heap.size w w'
def putAt (d f : Int) (ss : List ByteArray) (k : Int) (s : ByteArray) : List ByteArray × Bool :=
  if (cardOk d f ss && inB k 0 ((ss.length : Int) - 1)) && cardOk d f (ss.set k.toNat s) then (ss.set k.toNat s, true) else (ss, false)
theorem strs_of_own {w : World} {base n c : Nat} {A : Option Addr} {ss : List ByteArray} (h : w.ownsRow base 9 1 (.slice A n c) n (ss.map Value.string)) (hn : n ≤ 16777216) (hs : ∀ s ∈ ss, s.size ≤ 16777216) : Strs w w.heap.size A n ss :=
  ⟨Reads.of_own h, hn, hs⟩
theorem inB_iff {x a b : Int} : inB x a b = true ↔ a ≤ x ∧ x ≤ b := by simp [inB]
end Go.Proofs.Ytccjedongkokoaa
namespace Go.Proofs.Ytccjedongkokoaa
open Go.ChangeShapes Go.WideShapes Go.ChangeAt Go.RowKit
set_option linter.unusedVariables false
theorem own_setCells {e : TypeId} {base g n c : Nat} : ∀ (vs : List Value) (o : Nat) (w : World) (xs : List Value), w.ownsRow base e 1 (.slice (some ⟨g, 0, none⟩) n c) n xs → o + vs.length ≤ n →
    (w.setCells g o vs).ownsRow base e 1 (.slice (some ⟨g, 0, none⟩) n c) n (xs.take o ++ (vs ++ xs.drop (o + vs.length))) ∧ w.grownBy (w.setCells g o vs) (some g)
  | [], o, w, xs, h, _ => by
    refine ⟨?_, World.grownBy.refl w _⟩
    simpa [World.setCells] using h
  | v :: vs, o, w, xs, h, hl => by
    simp only [List.length_cons] at hl
    have hx : xs.length = n := by have := h.1; omega
    have h1 := h.stored o v
    have h2 := own_setCells vs (o + 1) (w.setCell ⟨g, o, none⟩ v) (xs.set o v) h1.1 (by omega)
    refine ⟨?_, only_trans h1.2 h2.2⟩
    have he : (xs.set o v).take (o + 1) ++ (vs ++ (xs.set o v).drop (o + 1 + vs.length)) = xs.take o ++ ((v :: vs) ++ xs.drop (o + (v :: vs).length)) := by
      have hd : (xs.set o v).drop (o + 1 + vs.length) = xs.drop (o + (v :: vs).length) := by
        rw [List.drop_set_of_lt (by omega)]
        congr 1
        simp only [List.length_cons]; omega
      have ht : (xs.set o v).take (o + 1) = xs.take o ++ [v] := by
        rw [List.take_succ_eq_append_getElem (by rw [List.length_set]; omega), List.getElem_set_self, List.take_set_of_le (Nat.le_refl _)]
      rw [hd, ht]
      simp
    rw [← he]
    exact h2.1
theorem own_drewN {w : World} {base n : Nat} {e : TypeId} {size : Nat} {v : Value} {xs : List Value} (h : w.ownsRow base e size v n xs) (q : Nat) : (w.drewN q).ownsRow base e size v n xs := h
theorem grown_drewN (w : World) (q : Nat) (row : Option Nat) : w.grownBy (w.drewN q) row := ⟨rfl, rfl, rfl, Nat.le_refl _, fun _ _ _ => rfl⟩
theorem strsOf_of (ss : List ByteArray) : Lib.strsOf (fun i => ss.getD i ByteArray.empty) ss.length = ss.map (·.data.toList) := by
  apply List.ext_getElem?
  intro j
  unfold Lib.strsOf
  rw [List.getElem?_map, List.getElem?_map]
  by_cases hj : j < ss.length
  · simp [hj]
  · simp [hj]
theorem enc_of (ss : List ByteArray) : (ss.map (·.data.toList)).map encStr = ss.map Value.string := by
  rw [List.map_map]
  apply List.map_congr_left
  intro s _
  show Value.string ⟨s.data.toList.toArray⟩ = _
  simp
theorem own_cell_s {w : World} {base g n c : Nat} {e : TypeId} {ss : List ByteArray} (h : w.ownsRow base e 1 (.slice (some ⟨g, 0, none⟩) n c) n (ss.map Value.string)) (i : Nat) (hi : i < n) : w.cell? ⟨g, 0 + i, none⟩ = some (.string (ss.getD i ByteArray.empty)) := by
  have hl : ss.length = n := by have := h.1; simpa using this
  rw [Nat.zero_add, h.cellAt i (by omega), List.getElem?_map, List.getElem?_eq_getElem (by omega)]
  simp [List.getD, List.getElem?_eq_getElem (show i < ss.length by omega)]
theorem rev_str (base g n c : Nat) (ss : List ByteArray) (w : World) (hO : w.ownsRow base 9 1 (.slice (some ⟨g, 0, none⟩) n c) n (ss.map Value.string)) (hn : n ≤ 16777216) :
    Calls Try.prog 111 #[.slice (some ⟨g, 0, none⟩) n c] w fun e w' => e = .returned (.tuple #[]) ∧ w'.ownsRow base 9 1 (.slice (some ⟨g, 0, none⟩) n c) n (ss.reverse.map Value.string) ∧ w.grownBy w' (some g) := by
  have hl : ss.length = n := by have := hO.1; simpa using this
  refine (Try.slices_Reverse_string_cells g 0 n c (fun i => ss.getD i ByteArray.empty) w (by omega) (own_cell_s hO) (fun j _ => by rw [Nat.zero_add]; exact hO.frozenAt j)).mono ?_
  rintro e w' ⟨rfl, q, rfl⟩
  subst hl
  have h := own_setCells ((ss.map (·.data.toList)).reverse.map encStr) 0 (w.drewN q) _ (own_drewN hO q) (by simp)
  rw [strsOf_of]
  have he : (ss.map (·.data.toList)).reverse.map encStr = ss.reverse.map Value.string := by
    rw [← List.map_reverse, enc_of]
  rw [he] at h ⊢
  refine ⟨rfl, ?_, only_trans (grown_drewN w q _) h.2⟩
  have h1 := h.1
  have hd : (ss.map Value.string).drop (0 + (ss.reverse.map Value.string).length) = [] := List.drop_eq_nil_of_le (by simp)
  rw [hd, List.take_zero, List.nil_append, List.append_nil] at h1
  exact h1
theorem gcell {w w' : World} {g : Nat} (h : w.grownBy w' (some g)) : (∀ b o, b < w.heap.size → b ≠ g → w'.cell? ⟨b, o, none⟩ = w.cell? ⟨b, o, none⟩) ∧ (∀ b o, b < w.heap.size → b ≠ g → w'.frozen? ⟨b, o, none⟩ = w.frozen? ⟨b, o, none⟩) :=
  ⟨fun b o hb hne => World.cell?_of_block (a := ⟨b, o, none⟩) (h.block b hb (by intro e; injection e; exact hne (by assumption))), fun b o hb hne => World.frozen?_of_block (a := ⟨b, o, none⟩) (h.block b hb (by intro e; injection e; exact hne (by assumption)))⟩
theorem reads_one {W : World} (u : Value) (t : TypeId) : Reads (W.alloc (.cells #[u] t)) (W.heap.size + 1) 1 (some ⟨W.heap.size, 0, none⟩) 1 [u] := by
  refine ⟨rfl, fun _ => ⟨_, rfl, by simp, fun j v hj => ?_⟩⟩
  have hj0 : j = 0 := by
    rcases Nat.eq_zero_or_pos j with h | h
    · exact h
    · rw [List.getElem?_eq_none (by simp; omega)] at hj; cases hj
  subst hj0
  rw [show ((⟨W.heap.size, 0, none⟩ : Addr).add 0) = ⟨W.heap.size, 0, none⟩ from rfl, World.cell?_alloc_mark]
  simpa using hj
theorem blk_cells {w : World} {g : Nat} {t : TypeId} {cs : Array Value} (h : w.heap[g]? = some (.cells cs t (0, 0))) (i : Nat) : w.cell? ⟨g, i, none⟩ = cs[i]? ∧ w.frozen? ⟨g, i, none⟩ = false :=
  ⟨cell_of_row w g i cs t (0, 0) h, frozen_of_row w g i cs t h⟩
theorem blk_lt {w : World} {g : Nat} {o : Obj} (h : w.heap[g]? = some o) : g < w.heap.size := (Array.getElem?_eq_some_iff.1 h).1
theorem blk_set {w : World} {g : Nat} {t : TypeId} {cs : Array Value} (h : w.heap[g]? = some (.cells cs t (0, 0))) (i : Nat) (u : Value) : (w.setCell ⟨g, i, none⟩ u).heap[g]? = some (.cells (cs.setIfInBounds i u) t (0, 0)) :=
  heap_setCell_same w g i cs t u h
theorem blk_new (W : World) (o : Obj) : (W.alloc o).heap[W.heap.size]? = some o := heap_alloc_new W o
theorem rev_take (ss : List ByteArray) (j : Nat) (hj : j < ss.length) : ss.reverse.take (j + 1) = ss.reverse.take j ++ [ss[ss.length - 1 - j]] := by
  rw [List.take_succ_eq_append_getElem (by rw [List.length_reverse]; exact hj), List.getElem_reverse]
theorem box_first (w : World) (o o2 : Obj) : ((w.alloc o).alloc o2).heap[w.heap.size]? = some o := (Below.heap_alloc _ _ _ (by simp)).trans (blk_new w o)
theorem box_second (w : World) (o o2 : Obj) : ((w.alloc o).alloc o2).heap[w.heap.size + 1]? = some o2 := by
  have h := blk_new (w.alloc o) o2
  simpa using h
theorem blk_alloc {g : Nat} {w : World} {o : Obj} (h : w.heap[g]? = some o) (o' : Obj) : (w.alloc o').heap[g]? = some o := (Below.heap_alloc _ _ _ (blk_lt h)).trans h
theorem blk_drew {g : Nat} {w : World} {o : Obj} (h : w.heap[g]? = some o) : w.drew.heap[g]? = some o := h
theorem blk_below {B g : Nat} {w w' : World} {o : Obj} (h : w.heap[g]? = some o) (hb : Below B w w') (hg : g < B) : w'.heap[g]? = some o := (hb.block g hg).trans h
section
variable {P : Program} (w : World)
end
end Go.Proofs.Ytccjedongkokoaa
