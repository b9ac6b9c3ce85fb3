/- The contracts of NameOk, CatalogOk of both packages. -/
import Derived.Test.YtdddglihomchfaaGreatItem2
import Derived.Deep.DeepCutAuto
import Derived.Deep.RegionHeld3
namespace Go.Proofs.YtdddglihomchfaaGreat
open Go.ChangeShapes Go.WideShapes Go.ChangeAt Go.RowKit
set_option linter.unusedVariables false
set_option maxRecDepth 10000

def nmB (b : UInt8) : Bool := decide (97 ≤ b.toNat) && decide (b.toNat ≤ 122)
def nameOk (s : ByteArray) : Bool := s.data.toList.all nmB && inB s.size 1 12
theorem nameOk_no {s : ByteArray} {k : Nat} (hk : k < s.size) (h : nmB s[k] = false) : nameOk s = false := by
  have : s.data.toList.all nmB = false := by
    rw [List.all_eq_false]
    refine ⟨s[k], ?_, by simp [h]⟩
    have : s[k] = s.data.toList[k]'(by simpa using hk) := rfl
    rw [this]; exact List.getElem_mem _
  unfold nameOk; rw [this]; rfl
set_option maxHeartbeats 800000 in
theorem i_NameOk (s : ByteArray) (w : World) (hs : s.size ≤ 16777216) :
    Calls Tryz.prog 129 #[.string s] w fun e w' => e = .returned (.bool (nameOk s)) ∧ w = w' := by
  go_enter Tryz.func129, Tryz.ntmps129
  go_wp2
  go_loop [3, 6] (fun x i => ∃ k : Nat, k ≤ s.size ∧ i = .int .i64 k ∧ (s.data.toList.take k).all nmB = true) (fun _ i => s.size - (intOf i).toNat)
  case atStart => exact ⟨0, Nat.zero_le _, rfl, by simp⟩
  case round =>
    obtain ⟨k, hk, rfl, hall⟩ := hrel
    by_cases hlt : k < s.size
    · have HT := Lib.hid (take_snoc s k hlt)
      by_cases h1 : s[k].toNat < 97
      · have HF := Lib.hid (nameOk_no hlt (by unfold nmB; rw [decide_eq_false (by omega)]; rfl))
        go_wp2
        go_ret
        exact ⟨ret_bool HF.out.symm, rfl⟩
      · by_cases h2 : 122 < s[k].toNat
        · have HF := Lib.hid (nameOk_no hlt (by unfold nmB; rw [decide_eq_true (by omega), decide_eq_false (by omega)]; rfl))
          go_wp2
          go_ret
          exact ⟨ret_bool HF.out.symm, rfl⟩
        · go_wp2
          go_round
          case rel => exact ⟨k + 1, by omega, by go_num, by rw [HT.out, List.all_append, hall]; simp [nmB]; omega⟩
          case measure => simp [intOf]; omega
    · have hke : k = s.size := by omega
      have HF : Hid (nameOk s = inB s.size 1 12) := by
        unfold Hid nameOk
        rw [List.take_of_length_le (by simp; omega)] at hall
        rw [hall]; rfl
      clear hall hke
      go_wp2_with (go_at_call 72; refine (i_within _ _ _ _).mono ?_; rintro e w' ⟨rfl, rfl⟩)
      go_ret
      exact ⟨ret_bool HF.out.symm, rfl⟩
set_option maxHeartbeats 800000 in
theorem s_NameOk (s : ByteArray) (w : World) (hs : s.size ≤ 16777216) :
    Calls Tryz.prog 121 #[.string s] w fun e w' => e = .returned (.bool (nameOk s)) ∧ w = w' := by
  go_enter Tryz.func121, Tryz.ntmps121
  go_wp2
  go_loop [3] (fun i => ∃ k : Nat, k ≤ s.size ∧ i = .int .i64 k ∧ (s.data.toList.take k).all nmB = true) (fun i => s.size - (intOf i).toNat)
  case atStart => exact ⟨0, Nat.zero_le _, rfl, by simp⟩
  case round =>
    obtain ⟨k, hk, rfl, hall⟩ := hrel
    by_cases hlt : k < s.size
    · have HT := Lib.hid (take_snoc s k hlt)
      by_cases h1 : s[k].toNat < 97
      · have HF := Lib.hid (nameOk_no hlt (by unfold nmB; rw [decide_eq_false (by omega)]; rfl))
        go_wp2
        go_ret
        exact ⟨ret_bool HF.out.symm, rfl⟩
      · by_cases h2 : 122 < s[k].toNat
        · have HF := Lib.hid (nameOk_no hlt (by unfold nmB; rw [decide_eq_true (by omega), decide_eq_false (by omega)]; rfl))
          go_wp2
          go_ret
          exact ⟨ret_bool HF.out.symm, rfl⟩
        · go_wp2
          go_round
          case rel => exact ⟨k + 1, by omega, by go_num, by rw [HT.out, List.all_append, hall]; simp [nmB]; omega⟩
          case measure => simp [intOf]; omega
    · have hke : k = s.size := by omega
      have HF : Hid (nameOk s = inB s.size 1 12) := by
        unfold Hid nameOk
        rw [List.take_of_length_le (by simp; omega)] at hall
        rw [hall]; rfl
      clear hall hke
      go_wp2_with (go_at_call 65; refine (s_l01In _ _ _ _).mono ?_; rintro e w' ⟨rfl, rfl⟩)
      go_ret
      exact ⟨ret_bool HF.out.symm, rfl⟩
def nmLe (a b : ByteArray) : Bool := Op.bytesLess a.toList b.toList || a.toList == b.toList
/-- item i is good behind its elders -/
def itGood (P : List PItem) (i : Nat) : Bool :=
  match P[i]? with
  | none => true
  | some x => (nameOk x.nm && cardOk x.d x.f x.ss) && (decide (i = 0) || match P[i - 1]? with | none => true | some y => !nmLe x.nm y.nm)
def catOk (P : List PItem) : Bool := (List.range P.length).all (itGood P) && decide (P.length ≤ 20)
theorem catOk_no {P : List PItem} {k : Nat} (hk : k < P.length) (h : itGood P k = false) : catOk P = false := by
  have : (List.range P.length).all (itGood P) = false := by
    rw [List.all_eq_false]; exact ⟨k, by simpa using hk, by simp [h]⟩
  unfold catOk; rw [this]; rfl
theorem itGood_0 {P : List PItem} {x : PItem} (h : P[0]? = some x) : itGood P 0 = (nameOk x.nm && cardOk x.d x.f x.ss) := by unfold itGood; rw [h]; simp
theorem itGood_s {P : List PItem} {k : Nat} {x y : PItem} (h : P[k + 1]? = some x) (h2 : P[k]? = some y) : itGood P (k + 1) = ((nameOk x.nm && cardOk x.d x.f x.ss) && !nmLe x.nm y.nm) := by
  unfold itGood; rw [h]; simp [h2]
theorem all_range_succ {f : Nat → Bool} {k : Nat} (h : (List.range k).all f = true) (h2 : f k = true) : (List.range (k + 1)).all f = true := by
  rw [List.range_succ, List.all_append, h]; simp [h2]
theorem plI_at {L : List RItem} {k : Nat} (hk : k < L.length) : (plI L)[k]? = some L[k].x := by simp [plI, hk]
end Go.Proofs.YtdddglihomchfaaGreat
