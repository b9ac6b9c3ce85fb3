/- Strips and cards that are drawn: l02Draw, FlatStrip of the reference, l05Card. -/
import Derived.Test.YteffbjddgdjkmaaDraw1b
import Derived.Test.YteffbjddgdjkmaaUCard
import Derived.Deep.RegionLaw
namespace Go.Proofs.Yteffbjddgdjkmaa
open Go.ChangeShapes Go.WideShapes Go.ChangeAt Go.RowKit
set_option linter.unusedVariables false
set_option maxRecDepth 10000

/-- a strip of a frame -/
def Drew (d f : Nat) (s : ByteArray) : Prop := cnt 100 s.data.toList = d ∧ cnt 102 s.data.toList = f ∧ s.size = d + f
theorem cnt_app (c : UInt8) (a b : List UInt8) : cnt c (a ++ b) = cnt c a + cnt c b := by unfold cnt; exact List.count_append
theorem Drew.zero : Drew 0 0 ⟨#[]⟩ := ⟨rfl, rfl, rfl⟩
theorem Drew.d {d f d' : Nat} {s : ByteArray} (h : Drew d f s) (hd : d' = d + 1) : Drew d' f (s ++ ⟨#[100]⟩) := by
  subst hd
  obtain ⟨h1, h2, h3⟩ := h
  refine ⟨?_, ?_, ?_⟩
  · rw [ByteArray.data_append, Array.toList_append, cnt_app, h1]; rfl
  · rw [ByteArray.data_append, Array.toList_append, cnt_app, h2]; rfl
  · rw [ByteArray.size_append, size_one]; omega
theorem Drew.f {d f f' : Nat} {s : ByteArray} (h : Drew d f s) (hf : f' = f + 1) : Drew d f' (s ++ ⟨#[102]⟩) := by
  subst hf
  obtain ⟨h1, h2, h3⟩ := h
  refine ⟨?_, ?_, ?_⟩
  · rw [ByteArray.data_append, Array.toList_append, cnt_app, h1]; rfl
  · rw [ByteArray.data_append, Array.toList_append, cnt_app, h2]; rfl
  · rw [ByteArray.size_append, size_one]; omega
theorem Drew.app {d f d' f' : Nat} {s t : ByteArray} (h : Drew d f s) (k : Drew d' f' t) : Drew (d + d') (f + f') (s ++ t) := by
  obtain ⟨h1, h2, h3⟩ := h
  obtain ⟨k1, k2, k3⟩ := k
  refine ⟨?_, ?_, ?_⟩
  · rw [ByteArray.data_append, Array.toList_append, cnt_app, h1, k1]
  · rw [ByteArray.data_append, Array.toList_append, cnt_app, h2, k2]
  · rw [ByteArray.size_append, h3, k3]; omega
theorem drew_strip {d f : Nat} {s : ByteArray} (h : Drew d f s) (h1 : 1 ≤ d) (h2 : d ≤ 8) (h3 : 1 ≤ f) (h4 : f ≤ 8) : isStrip s.data.toList = true := by
  obtain ⟨k1, k2, k3⟩ := h
  unfold isStrip
  have hl : s.data.toList.length = d + f := k3
  rw [k1, k2, hl]
  simp [inB]
  omega
theorem drew_rep (x : UInt8) (n : Nat) : cnt x (List.replicate n x) = n := by unfold cnt; simp
theorem Drew.flat (d f : Nat) : Drew d f (⟨(List.replicate d 100).toArray⟩ ++ ⟨(List.replicate f 102).toArray⟩) := by
  have h1 : Drew d 0 ⟨(List.replicate d 100).toArray⟩ := ⟨by show cnt 100 (List.replicate d 100) = d; exact drew_rep _ _, by show cnt 102 (List.replicate d 100) = 0; unfold cnt; rw [List.count_replicate]; simp, by show (List.replicate d (100 : UInt8)).toArray.size = d; simp⟩
  have h2 : Drew 0 f ⟨(List.replicate f 102).toArray⟩ := ⟨by show cnt 100 (List.replicate f 102) = 0; unfold cnt; rw [List.count_replicate]; simp, by show cnt 102 (List.replicate f 102) = f; exact drew_rep _ _, by show (List.replicate f (102 : UInt8)).toArray.size = 0 + f; simp⟩
  have h := h1.app h2
  simpa using h
set_option maxHeartbeats 1600000 in
theorem s_l02Draw (d f : Nat) (g B : Nat) (A : Option Addr) (c : Nat) (bs : List Int) (w : World) (hC : Cur w g B A c bs) (hd : d ≤ 8) (hf : f ≤ 8) :
    Calls Try.prog 105 #[.pointer (some ⟨g, 0, none⟩), .int .i64 d, .int .i64 f] w fun e w' => ∃ s, e = .returned (.string s) ∧ Drew d f s ∧ Cur w' g B A c bs ∧ w.grownBy w' (some g) := by
  go_enter Try.func105, Try.ntmps105
  go_wp2
  go_loopw [1, 2, 7] (fun dn fn sn wr => ∃ (a b : Nat) (s : ByteArray), a ≤ d ∧ b ≤ f ∧ dn = .int .i64 a ∧ fn = .int .i64 b ∧ sn = .string s ∧ Hid (Drew (d - a) (f - b) s) ∧ Cur wr g B A c bs ∧ w.grownBy wr (some g)) (fun dn fn _ _ => (intOf dn).toNat + (intOf fn).toNat)
  case atStart => exact ⟨d, f, _, Nat.le_refl _, Nat.le_refl _, rfl, rfl, rfl, by unfold Hid; simp only [Nat.sub_self]; exact Drew.zero, hC, World.grownBy.refl _ _⟩
  case round =>
    obtain ⟨a, b, s, ha, hb, rfl, rfl, rfl, HD, hCr, hg⟩ := hrel
    have hsz : s.size ≤ 16 := by have := HD.out.2.2; omega
    have hov : ¬ 9223372036854775807 < s.size + 1 := by omega
    by_cases h0 : 0 < a + b
    · go_wp2_with fail
      refine (s_l01Below _ g B A c bs wr hCr (by omega) (by omega)).mono ?_
      rintro e w1 ⟨x, rfl, hx0, hx1, hC1, hg1⟩
      by_cases hx : x < a
      · go_wp2
        go_roundw
        case rel => exact ⟨a - 1, b, _, by omega, hb, by congr 1; omega, rfl, rfl, by unfold Hid; exact Drew.d HD.out (by omega), hC1, only_trans hg hg1⟩
        case measure => simp [intOf]; omega
      · go_wp2
        go_roundw
        case rel => exact ⟨a, b - 1, _, ha, by omega, rfl, by congr 1; omega, rfl, by unfold Hid; exact Drew.f HD.out (by omega), hC1, only_trans hg hg1⟩
        case measure => simp [intOf]; omega
    · have ha0 : a = 0 := by omega
      have hb0 : b = 0 := by omega
      subst ha0
      subst hb0
      go_wp2
      go_ret
      exact ⟨s, rfl, HD.out, hCr, hg⟩
set_option maxHeartbeats 800000 in
theorem s_l02Many (x : UInt8) (n : Nat) (w : World) (hn : n ≤ 8) :
    Calls Try.prog 131 #[.string ⟨#[x]⟩, .int .i64 n] w fun e w' => e = .returned (.string ⟨(List.replicate n x).toArray⟩) ∧ w' = w := by
  go_enter Try.func131, Try.ntmps131
  go_wp2
  go_loopw [5, 6] (fun sn i wr => ∃ j : Nat, j ≤ n ∧ i = .int .i64 j ∧ sn = .string ⟨(List.replicate j x).toArray⟩ ∧ wr = w) (fun _ i _ => n - (intOf i).toNat)
  case atStart => exact ⟨0, Nat.zero_le _, rfl, rfl, rfl⟩
  case round =>
    obtain ⟨j, hj, rfl, rfl, rfl⟩ := hrel
    by_cases hlt : j < n
    · have hov : ¬ 9223372036854775807 < (⟨(List.replicate j x).toArray⟩ : ByteArray).size + 1 := by show ¬ _ < (List.replicate j x).toArray.size + 1; simp; omega
      go_wp2
      go_roundw
      case rel => exact ⟨j + 1, by omega, by go_num, by congr 1; apply ba_ext; simp [ByteArray.data_append, List.replicate_succ'], by trivial⟩
      case measure => simp [intOf]; omega
    · have hjn : j = n := by omega
      subst hjn
      go_wp2
      go_ret
      exact ⟨rfl, rfl⟩
set_option maxHeartbeats 800000 in
theorem s_FlatStrip (d f : Nat) (w : World) (h1 : 1 ≤ d) (h2 : d ≤ 8) (h3 : 1 ≤ f) (h4 : f ≤ 8) :
    Calls Try.prog 119 #[.int .i64 d, .int .i64 f] w fun e w' => ∃ s, e = .returned (.string s) ∧ Drew d f s ∧ w' = w := by
  have hsz : ¬ 9223372036854775807 < (⟨(List.replicate d 100).toArray⟩ : ByteArray).size + (⟨(List.replicate f 102).toArray⟩ : ByteArray).size := by
    show ¬ _ < (List.replicate d (100 : UInt8)).toArray.size + (List.replicate f (102 : UInt8)).toArray.size; simp; omega
  have hfl := Drew.flat d f
  simp only [List.toArray_replicate] at hfl
  have hs1 : isStepsB (d : Int) = true := by simp [isStepsB, inB]; omega
  have hs2 : isStepsB (f : Int) = true := by simp [isStepsB, inB]; omega
  have HFL := hide hfl
  clear hfl
  go_enter Try.func119, Try.ntmps119
  go_wp2_with (first | (go_at_call 130; refine (s_l02Frame _ _ _).mono ?_; rintro e w' ⟨rfl, rfl⟩) | (go_at_call_of 131 (Value.string ⟨#[100]⟩); refine (s_l02Many 100 d _ h2).mono ?_; rintro e w' ⟨rfl, rfl⟩) | (go_at_call_of 131 (Value.string ⟨#[102]⟩); refine (s_l02Many 102 f _ h4).mono ?_; rintro e w' ⟨rfl, rfl⟩))
  go_ret
  exact ⟨_, rfl, unhide HFL, rfl⟩
end Go.Proofs.Yteffbjddgdjkmaa
