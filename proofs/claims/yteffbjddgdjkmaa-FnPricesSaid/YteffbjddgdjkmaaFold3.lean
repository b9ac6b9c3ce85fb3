/- The cuts between two strips: the contracts of CutsBetween of both packages. -/
import Derived.Test.YteffbjddgdjkmaaFold1
import Derived.Test.YteffbjddgdjkmaaMix1
import Derived.Deep.QuietTactic
import Derived.BigQuiet
import Derived.Deep.DeepCutAuto
namespace Go.Proofs.Yteffbjddgdjkmaa
open Go.ChangeShapes Go.WideShapes Go.ChangeAt Go.RowKit
set_option linter.unusedVariables false
set_option linter.unusedSimpArgs false
set_option maxRecDepth 10000

def same1 (s t : ByteArray) (k : Nat) : Bool := (chr s (k : Int) == chr t (k : Int)) && (cnt 102 (s.data.toList.take k) == cnt 102 (t.data.toList.take k))
def cutN (s t : ByteArray) : Nat → Nat
  | 0 => 0
  | j + 1 => cutN s t j + if same1 s t j = true then 0 else 1
theorem cutN_same {s t : ByteArray} {j : Nat} (h : same1 s t j = true) : cutN s t (j + 1) = cutN s t j := by show cutN s t j + _ = _; rw [if_pos h]; rfl
theorem cutN_diff {s t : ByteArray} {j : Nat} (h : same1 s t j = false) : cutN s t (j + 1) = cutN s t j + 1 := by show cutN s t j + _ = _; rw [h]; rfl
theorem cutN_le (s t : ByteArray) : ∀ j, cutN s t j ≤ j
  | 0 => Nat.le_refl _
  | j + 1 => by have := cutN_le s t j; show cutN s t j + _ ≤ _; split <;> omega
def cutL (s t : ByteArray) : Nat := if sameFrame s.data.toList t.data.toList = true then cutN s t s.size else 0
theorem cutL_le (s t : ByteArray) : cutL s t ≤ s.size := by
  unfold cutL
  split
  · exact cutN_le s t _
  · exact Nat.zero_le _
theorem same1_get {s t : ByteArray} {k : Nat} (h1 : k < s.size) (h2 : k < t.size) : same1 s t k = ((s[k] == t[k]) && (cnt 102 (s.data.toList.take k) == cnt 102 (t.data.toList.take k))) := by
  unfold same1; rw [chr_get s k h1, chr_get t k h2]
set_option maxHeartbeats 800000 in
theorem i_isSameStep (s t : ByteArray) (k : Nat) (w : World) (h1 : k < s.size) (h2 : k < t.size) (hs : s.size ≤ 16777216) (ht : t.size ≤ 16777216) :
    Calls Try.prog 186 #[.string s, .string t, .int .i64 k] w fun e w' => e = .returned (.bool (same1 s t k)) ∧ ∃ m, w' = w.drewN m := by
  have hg := same1_get h1 h2
  have hi0 : (0 : Int) ≤ (k : Int) := Int.natCast_nonneg _
  have hi1 : (k : Int) < (s.size : Int) := by omega
  have hi2 : (k : Int) < (t.size : Int) := by omega
  have hfs := fun W : World => i_forwards s (k : Int) k W rfl (by omega) hs
  have hft := fun W : World => i_forwards t (k : Int) k W rfl (by omega) ht
  have HFS := hide hfs
  have HFT := hide hft
  clear hfs hft
  by_cases hq : s[k] = t[k]
  · have hb1 : ((s[k].toNat : Int) == (t[k].toNat : Int)) = true := by rw [hq]; simp
    have HR : Hid (same1 s t k = (((cnt 102 (s.data.toList.take k) : Nat) : Int) == ((cnt 102 (t.data.toList.take k) : Nat) : Int))) := by
      unfold Hid
      rw [hg, hq]
      simp only [beq_self_eq_true, Bool.true_and]
      rw [Bool.eq_iff_iff]; simp only [beq_iff_eq]; omega
    clear hg hq
    go_enter Try.func186, Try.ntmps186
    go_wp2_with fail
    go_quiet (first | (go_at_call_of 196 (Value.string s); first | exact quiet_left (unhide HFS _) | exact quiet_add_left (unhide HFS _)) | (go_at_call_of 196 (Value.string t); first | exact quiet_left (unhide HFT _) | exact quiet_add_left (unhide HFT _)))
    go_wp2
    go_ret
    exact ⟨ret_bool HR.out.symm, by first | exact ⟨0, rfl⟩ | exact ⟨_, rfl⟩⟩
  · have hb1 : ((s[k].toNat : Int) == (t[k].toNat : Int)) = false := by
      rw [beq_eq_false_iff_ne]; intro h; apply hq; apply UInt8.toNat_inj.1; omega
    have HR : Hid (same1 s t k = false) := by unfold Hid; rw [hg]; simp [hq]
    clear hg hq
    go_enter Try.func186, Try.ntmps186
    go_wp2_with fail
    go_quiet (fail)
    go_wp2
    go_ret
    exact ⟨ret_bool HR.out.symm, by first | exact ⟨0, rfl⟩ | exact ⟨_, rfl⟩⟩
set_option maxHeartbeats 1600000 in
theorem i_CutsBetween (s t : ByteArray) (w : World) (hs : s.size ≤ 16777216) (ht : t.size ≤ 16777216) :
    Calls Try.prog 146 #[.string s, .string t] w fun e w' => ∃ A c, e = .returned (.slice A (cutL s t) c) ∧ Below w.heap.size w w' := by
  have hq1 := fun W : World => i_SameFrame s t W hs ht
  cases hi : sameFrame s.data.toList t.data.toList
  · rw [hi] at hq1
    have HQ1 := hide hq1
    have HR : Hid (cutL s t = 0) := by unfold Hid cutL; rw [hi]; rfl
    clear hq1 hi
    go_enter Try.func146, Try.ntmps146
    go_wp2_with (go_at_call 157; refine (unhide HQ1 _).mono ?_; rintro e w' ⟨rfl, rfl⟩)
    go_ret
    exact ⟨none, 0, (by rw [HR.out]; rfl), Below.refl _ _⟩
  · rw [hi] at hq1
    have HQ1 := hide hq1
    have HR : Hid (cutL s t = cutN s t s.size) := by unfold Hid cutL; rw [hi]; rfl
    obtain ⟨htn, hs16⟩ := sameFrame_len hi
    clear hq1 hi
    obtain ⟨i0, hi0', hz0, hz1, hz2⟩ := info_parts info_int
    go_enter Try.func146, Try.ntmps146
    go_wp2_with (go_at_call 157; refine (unhide HQ1 _).mono ?_; rintro e w' ⟨rfl, rfl⟩)
    go_loopw [5, 14] (fun o i wr => ∃ (j N : Nat) (A' : Option Addr) (c' : Nat) (xs : List Value), j ≤ s.size ∧ i = .int .i64 j ∧ o = .slice A' N c' ∧ Hid (N = cutN s t j) ∧ wr.ownsRow w.heap.size 3 1 (.slice A' N c') N xs ∧ Below w.heap.size w wr) (fun _ i _ => s.size - (intOf i).toNat)
    case atStart =>
      have h := made_at (e := 3) (size := 1) w w.heap.size w.heap.size rfl (Nat.le_refl _)
      exact ⟨0, 0, _, _, _, Nat.zero_le _, rfl, rfl, rfl, h, bel⟩
    case round =>
      obtain ⟨j, N, A', c', xs, hj, rfl, rfl, HN, hown, hb⟩ := hrel
      have hbs := hb.size
      have hNj : N ≤ j := by have := cutN_le s t j; have := HN.out; omega
      by_cases hlt : j < s.size
      · cases hcr : same1 s t j
        · have HC := Lib.hid hcr
          have HS := Lib.hid (cutN_diff hcr)
          have hone : ∀ u ∈ [Value.int .i64 (j : Int)], u.oneCell' = true := by intro u hu; simp at hu; subst hu; rfl
          clear hcr
          go_wp2_with (first | (go_at_call 186; refine (i_isSameStep s t j _ hlt (by omega) hs ht).mono ?_; rintro e w1 ⟨rfl, m, rfl⟩; rw [HC.out]; obtain ⟨wq, hwq⟩ : ∃ W, W = wr.drewN m := ⟨_, rfl⟩; (have hownq : wq.ownsRow w.heap.size 3 1 (.slice A' N c') N xs := (by rw [hwq]; exact hown)); (have hbq : Below w.heap.size w wq := (by rw [hwq]; exact below_drewN hb _)); rw [← hwq]; clear hwq hown hb; have hbs := hbq.size) | (at_builtin; refine wpList_append_N _ rfl (.tmp 22) (.tmp 24) _ rfl w.heap.size 3 i0 _ 1 8 Try.underlying69 hi0' hz0 hz1 hz2 rfl (by omega) (.slice A' N c') N xs rfl (hownq.alloc _) (wq.heap.size + 1) (some ⟨wq.heap.size, 0, none⟩) 1 1 [Value.int .i64 (j : Int)] rfl (reads_one _ _) hone ?_ ?_ ?_ (N + 1) (xs ++ [Value.int .i64 (j : Int)]) rfl rfl ?_; (unfold maxLen; omega); omega; (simp; omega); intro A2 c2 w3 ho3 hb3))
          go_roundw
          case rel => exact ⟨j + 1, N + 1, A2, c2, _, by omega, by go_num, rfl, by unfold Hid; rw [HS.out, HN.out], ho3, bel⟩
          case measure => simp [intOf]; omega
        · have HC := Lib.hid hcr
          have HS := Lib.hid (cutN_same hcr)
          clear hcr
          go_wp2_with (go_at_call 186; refine (i_isSameStep s t j _ hlt (by omega) hs ht).mono ?_; rintro e w1 ⟨rfl, m, rfl⟩; rw [HC.out])
          go_roundw
          case rel => exact ⟨j + 1, N, A', c', xs, by omega, by go_num, rfl, by unfold Hid; rw [HS.out]; exact HN.out, by exact hown, below_drewN hb _⟩
          case measure => simp [intOf]; omega
      · have hje : j = s.size := by omega
        subst hje
        go_wp2
        go_ret
        exact ⟨A', c', (by rw [HR.out, ← HN.out]; rfl), hb⟩
set_option maxHeartbeats 3200000 in
theorem s_CutsBetween (s t : ByteArray) (w : World) (hs : s.size ≤ 16777216) (ht : t.size ≤ 16777216) :
    Calls Try.prog 91 #[.string s, .string t] w fun e w' => ∃ A c, e = .returned (.slice A (cutL s t) c) ∧ Below w.heap.size w w' := by
  have hq1 := fun W : World => s_SameFrame s t W hs ht
  obtain ⟨i0, hi0', hz0, hz1, hz2⟩ := info_parts info_int
  cases hi : sameFrame s.data.toList t.data.toList
  · rw [hi] at hq1
    have HQ1 := hide hq1
    have HR : Hid (cutL s t = 0) := by unfold Hid cutL; rw [hi]; rfl
    clear hq1 hi
    go_enter Try.func91, Try.ntmps91
    go_wp2
    go_loopw [5, 6, 7, 8] (fun o p q i wr => ∃ (j : Nat) (A' : Option Addr) (c' : Nat), i = .int .i64 j ∧ o = .slice A' 0 c' ∧ p = .int .i64 0 ∧ q = .int .i64 0 ∧ Below w.heap.size w wr) (fun _ _ _ i _ => s.size - (intOf i).toNat)
    case atStart => exact ⟨0, _, _, rfl, rfl, rfl, rfl, bel⟩
    case round =>
      obtain ⟨j, A', c', rfl, rfl, rfl, rfl, hb⟩ := hrel
      by_cases hlt : j < s.size
      · go_wp2_with (go_at_call 101; refine (unhide HQ1 _).mono ?_; rintro e w' ⟨rfl, rfl⟩)
        go_ret
        exact ⟨A', c', (by rw [HR.out]; rfl), hb⟩
      · go_wp2
        go_ret
        exact ⟨A', c', (by rw [HR.out]; rfl), hb⟩
  · rw [hi] at hq1
    have HQ1 := hide hq1
    have HR : Hid (cutL s t = cutN s t s.size) := by unfold Hid cutL; rw [hi]; rfl
    obtain ⟨htn, hs16⟩ := sameFrame_len hi
    clear hq1 hi
    go_enter Try.func91, Try.ntmps91
    go_wp2
    go_loopw [5, 6, 7, 8] (fun o p q i wr => ∃ (j N P Q : Nat) (A' : Option Addr) (c' : Nat) (xs : List Value), j ≤ s.size ∧ i = .int .i64 j ∧ o = .slice A' N c' ∧ p = .int .i64 P ∧ q = .int .i64 Q ∧ Hid (P = cnt 102 (s.data.toList.take j)) ∧ Hid (Q = cnt 102 (t.data.toList.take j)) ∧ Hid (N = cutN s t j) ∧ wr.ownsRow w.heap.size 3 1 (.slice A' N c') N xs ∧ Below w.heap.size w wr) (fun _ _ _ i _ => s.size - (intOf i).toNat)
    case atStart =>
      have h := made_at (e := 3) (size := 1) w w.heap.size w.heap.size rfl (Nat.le_refl _)
      exact ⟨0, 0, 0, 0, _, _, _, Nat.zero_le _, rfl, rfl, rfl, rfl, rfl, rfl, rfl, h, bel⟩
    case round =>
      obtain ⟨j, N, P, Q, A', c', xs, hj, rfl, rfl, rfl, rfl, HP, HQ, HN, hown, hb⟩ := hrel
      have hbs := hb.size
      have hNj : N ≤ j := by have := cutN_le s t j; have := HN.out; omega
      have hP16 : P ≤ 16777216 := by have h1 := cnt_le 102 (s.data.toList.take j); have h2 : (s.data.toList.take j).length ≤ j := List.length_take_le _ _; have := HP.out; omega
      have hQ16 : Q ≤ 16777216 := by have h1 := cnt_le 102 (t.data.toList.take j); have h2 : (t.data.toList.take j).length ≤ j := List.length_take_le _ _; have := HQ.out; omega
      by_cases hlt : j < s.size
      · have hlt2 : j < t.size := by omega
        have hone : ∀ u ∈ [Value.int .i64 (j : Int)], u.oneCell' = true := by intro u hu; simp at hu; subst hu; rfl
        by_cases hq : s[j] = t[j]
        · have hb1 : ((s[j].toNat : Int) != (t[j].toNat : Int)) = false := by rw [hq]; simp
          have hb1' : ((s[j].toNat : Int) == (t[j].toNat : Int)) = true := by rw [hq]; simp
          by_cases hpq : P = Q
          · have hcr : same1 s t j = true := by rw [same1_get hlt hlt2, hq, ← HP.out, ← HQ.out, hpq]; simp
            have hb2 : ((P : Int) != (Q : Int)) = false := by rw [hpq]; simp
            have hb2' : ((P : Int) == (Q : Int)) = true := by rw [hpq]; simp
            have HS := Lib.hid (cutN_same hcr)
            clear hcr hq hpq
            by_cases hf : s[j] = 102
            · have hbf : ((s[j].toNat : Int) == 102) = true := by rw [hf]; rfl
              have HP2 : Hid ((P + 1) = cnt 102 (s.data.toList.take (j + 1))) := by unfold Hid; rw [cnt_take_f hlt hf, HP.out]
              clear hf
              by_cases hg : t[j] = 102
              · have hbg : ((t[j].toNat : Int) == 102) = true := by rw [hg]; rfl
                have HQ2 : Hid ((Q + 1) = cnt 102 (t.data.toList.take (j + 1))) := by unfold Hid; rw [cnt_take_f hlt2 hg, HQ.out]
                clear hg
                go_wp2_with (go_at_call 101; refine (unhide HQ1 _).mono ?_; rintro e w' ⟨rfl, rfl⟩)
                go_quiet (fail)
                go_wp2
                go_roundw
                case rel => exact ⟨j + 1, N, (P + 1), (Q + 1), A', c', xs, by omega, by go_num, rfl, by go_num, by go_num, HP2.out, HQ2.out, by unfold Hid; rw [HS.out]; exact HN.out, by exact hown, by first | exact below_drewN hb _ | exact hb⟩
                case measure => simp [intOf]; omega
              · have hbg : ((t[j].toNat : Int) == 102) = false := by rw [beq_eq_false_iff_ne]; intro h; apply hg; apply UInt8.toNat_inj.1; show _ = 102; omega
                have HQ2 : Hid (Q = cnt 102 (t.data.toList.take (j + 1))) := by unfold Hid; rw [cnt_take_d hlt2 hg, HQ.out]
                clear hg
                go_wp2_with (go_at_call 101; refine (unhide HQ1 _).mono ?_; rintro e w' ⟨rfl, rfl⟩)
                go_quiet (fail)
                go_wp2
                go_roundw
                case rel => exact ⟨j + 1, N, (P + 1), Q, A', c', xs, by omega, by go_num, rfl, by go_num, by go_num, HP2.out, HQ2.out, by unfold Hid; rw [HS.out]; exact HN.out, by exact hown, by first | exact below_drewN hb _ | exact hb⟩
                case measure => simp [intOf]; omega
            · have hbf : ((s[j].toNat : Int) == 102) = false := by rw [beq_eq_false_iff_ne]; intro h; apply hf; apply UInt8.toNat_inj.1; show _ = 102; omega
              have HP2 : Hid (P = cnt 102 (s.data.toList.take (j + 1))) := by unfold Hid; rw [cnt_take_d hlt hf, HP.out]
              clear hf
              by_cases hg : t[j] = 102
              · have hbg : ((t[j].toNat : Int) == 102) = true := by rw [hg]; rfl
                have HQ2 : Hid ((Q + 1) = cnt 102 (t.data.toList.take (j + 1))) := by unfold Hid; rw [cnt_take_f hlt2 hg, HQ.out]
                clear hg
                go_wp2_with (go_at_call 101; refine (unhide HQ1 _).mono ?_; rintro e w' ⟨rfl, rfl⟩)
                go_quiet (fail)
                go_wp2
                go_roundw
                case rel => exact ⟨j + 1, N, P, (Q + 1), A', c', xs, by omega, by go_num, rfl, by go_num, by go_num, HP2.out, HQ2.out, by unfold Hid; rw [HS.out]; exact HN.out, by exact hown, by first | exact below_drewN hb _ | exact hb⟩
                case measure => simp [intOf]; omega
              · have hbg : ((t[j].toNat : Int) == 102) = false := by rw [beq_eq_false_iff_ne]; intro h; apply hg; apply UInt8.toNat_inj.1; show _ = 102; omega
                have HQ2 : Hid (Q = cnt 102 (t.data.toList.take (j + 1))) := by unfold Hid; rw [cnt_take_d hlt2 hg, HQ.out]
                clear hg
                go_wp2_with (go_at_call 101; refine (unhide HQ1 _).mono ?_; rintro e w' ⟨rfl, rfl⟩)
                go_quiet (fail)
                go_wp2
                go_roundw
                case rel => exact ⟨j + 1, N, P, Q, A', c', xs, by omega, by go_num, rfl, by go_num, by go_num, HP2.out, HQ2.out, by unfold Hid; rw [HS.out]; exact HN.out, by exact hown, by first | exact below_drewN hb _ | exact hb⟩
                case measure => simp [intOf]; omega
          · have hcr : same1 s t j = false := by rw [same1_get hlt hlt2, hq, ← HP.out, ← HQ.out]; simp [hpq]
            have hne : ¬ (P : Int) = (Q : Int) := by omega
            have hb2 : ((P : Int) != (Q : Int)) = true := by rw [bne_iff_ne]; exact hne
            have hb2' : ((P : Int) == (Q : Int)) = false := by rw [beq_eq_false_iff_ne]; exact hne
            have HS := Lib.hid (cutN_diff hcr)
            clear hcr hq hpq hne
            by_cases hf : s[j] = 102
            · have hbf : ((s[j].toNat : Int) == 102) = true := by rw [hf]; rfl
              have HP2 : Hid ((P + 1) = cnt 102 (s.data.toList.take (j + 1))) := by unfold Hid; rw [cnt_take_f hlt hf, HP.out]
              clear hf
              by_cases hg : t[j] = 102
              · have hbg : ((t[j].toNat : Int) == 102) = true := by rw [hg]; rfl
                have HQ2 : Hid ((Q + 1) = cnt 102 (t.data.toList.take (j + 1))) := by unfold Hid; rw [cnt_take_f hlt2 hg, HQ.out]
                clear hg
                go_wp2_with (go_at_call 101; refine (unhide HQ1 _).mono ?_; rintro e w' ⟨rfl, rfl⟩)
                go_quiet (fail)
                obtain ⟨wq, hwq⟩ : ∃ W, W = wr.drewN nq := ⟨_, rfl⟩
                have hownq : wq.ownsRow w.heap.size 3 1 (.slice A' N c') N xs := by rw [hwq]; exact hown
                have hbq : Below w.heap.size w wq := by rw [hwq]; exact below_drewN hb _
                rw [← hwq]
                clear hwq hown hb
                have hbs := hbq.size
                go_wp2_with (at_builtin; refine wpList_append_N _ rfl (.tmp 33) (.tmp 35) _ rfl w.heap.size 3 i0 _ 1 8 Try.underlying69 hi0' hz0 hz1 hz2 rfl (by omega) (.slice A' N c') N xs rfl (hownq.alloc _) (wq.heap.size + 1) (some ⟨wq.heap.size, 0, none⟩) 1 1 [Value.int .i64 (j : Int)] rfl (reads_one _ _) hone ?_ ?_ ?_ (N + 1) (xs ++ [Value.int .i64 (j : Int)]) rfl rfl ?_; (unfold maxLen; omega); omega; (simp; omega); intro A2 c2 w3 ho3 hb3)
                go_roundw
                case rel => exact ⟨j + 1, N + 1, (P + 1), (Q + 1), A2, c2, _, by omega, by go_num, rfl, by go_num, by go_num, HP2.out, HQ2.out, by unfold Hid; rw [HS.out, HN.out], ho3, bel⟩
                case measure => simp [intOf]; omega
              · have hbg : ((t[j].toNat : Int) == 102) = false := by rw [beq_eq_false_iff_ne]; intro h; apply hg; apply UInt8.toNat_inj.1; show _ = 102; omega
                have HQ2 : Hid (Q = cnt 102 (t.data.toList.take (j + 1))) := by unfold Hid; rw [cnt_take_d hlt2 hg, HQ.out]
                clear hg
                go_wp2_with (go_at_call 101; refine (unhide HQ1 _).mono ?_; rintro e w' ⟨rfl, rfl⟩)
                go_quiet (fail)
                obtain ⟨wq, hwq⟩ : ∃ W, W = wr.drewN nq := ⟨_, rfl⟩
                have hownq : wq.ownsRow w.heap.size 3 1 (.slice A' N c') N xs := by rw [hwq]; exact hown
                have hbq : Below w.heap.size w wq := by rw [hwq]; exact below_drewN hb _
                rw [← hwq]
                clear hwq hown hb
                have hbs := hbq.size
                go_wp2_with (at_builtin; refine wpList_append_N _ rfl (.tmp 33) (.tmp 35) _ rfl w.heap.size 3 i0 _ 1 8 Try.underlying69 hi0' hz0 hz1 hz2 rfl (by omega) (.slice A' N c') N xs rfl (hownq.alloc _) (wq.heap.size + 1) (some ⟨wq.heap.size, 0, none⟩) 1 1 [Value.int .i64 (j : Int)] rfl (reads_one _ _) hone ?_ ?_ ?_ (N + 1) (xs ++ [Value.int .i64 (j : Int)]) rfl rfl ?_; (unfold maxLen; omega); omega; (simp; omega); intro A2 c2 w3 ho3 hb3)
                go_roundw
                case rel => exact ⟨j + 1, N + 1, (P + 1), Q, A2, c2, _, by omega, by go_num, rfl, by go_num, by go_num, HP2.out, HQ2.out, by unfold Hid; rw [HS.out, HN.out], ho3, bel⟩
                case measure => simp [intOf]; omega
            · have hbf : ((s[j].toNat : Int) == 102) = false := by rw [beq_eq_false_iff_ne]; intro h; apply hf; apply UInt8.toNat_inj.1; show _ = 102; omega
              have HP2 : Hid (P = cnt 102 (s.data.toList.take (j + 1))) := by unfold Hid; rw [cnt_take_d hlt hf, HP.out]
              clear hf
              by_cases hg : t[j] = 102
              · have hbg : ((t[j].toNat : Int) == 102) = true := by rw [hg]; rfl
                have HQ2 : Hid ((Q + 1) = cnt 102 (t.data.toList.take (j + 1))) := by unfold Hid; rw [cnt_take_f hlt2 hg, HQ.out]
                clear hg
                go_wp2_with (go_at_call 101; refine (unhide HQ1 _).mono ?_; rintro e w' ⟨rfl, rfl⟩)
                go_quiet (fail)
                obtain ⟨wq, hwq⟩ : ∃ W, W = wr.drewN nq := ⟨_, rfl⟩
                have hownq : wq.ownsRow w.heap.size 3 1 (.slice A' N c') N xs := by rw [hwq]; exact hown
                have hbq : Below w.heap.size w wq := by rw [hwq]; exact below_drewN hb _
                rw [← hwq]
                clear hwq hown hb
                have hbs := hbq.size
                go_wp2_with (at_builtin; refine wpList_append_N _ rfl (.tmp 33) (.tmp 35) _ rfl w.heap.size 3 i0 _ 1 8 Try.underlying69 hi0' hz0 hz1 hz2 rfl (by omega) (.slice A' N c') N xs rfl (hownq.alloc _) (wq.heap.size + 1) (some ⟨wq.heap.size, 0, none⟩) 1 1 [Value.int .i64 (j : Int)] rfl (reads_one _ _) hone ?_ ?_ ?_ (N + 1) (xs ++ [Value.int .i64 (j : Int)]) rfl rfl ?_; (unfold maxLen; omega); omega; (simp; omega); intro A2 c2 w3 ho3 hb3)
                go_roundw
                case rel => exact ⟨j + 1, N + 1, P, (Q + 1), A2, c2, _, by omega, by go_num, rfl, by go_num, by go_num, HP2.out, HQ2.out, by unfold Hid; rw [HS.out, HN.out], ho3, bel⟩
                case measure => simp [intOf]; omega
              · have hbg : ((t[j].toNat : Int) == 102) = false := by rw [beq_eq_false_iff_ne]; intro h; apply hg; apply UInt8.toNat_inj.1; show _ = 102; omega
                have HQ2 : Hid (Q = cnt 102 (t.data.toList.take (j + 1))) := by unfold Hid; rw [cnt_take_d hlt2 hg, HQ.out]
                clear hg
                go_wp2_with (go_at_call 101; refine (unhide HQ1 _).mono ?_; rintro e w' ⟨rfl, rfl⟩)
                go_quiet (fail)
                obtain ⟨wq, hwq⟩ : ∃ W, W = wr.drewN nq := ⟨_, rfl⟩
                have hownq : wq.ownsRow w.heap.size 3 1 (.slice A' N c') N xs := by rw [hwq]; exact hown
                have hbq : Below w.heap.size w wq := by rw [hwq]; exact below_drewN hb _
                rw [← hwq]
                clear hwq hown hb
                have hbs := hbq.size
                go_wp2_with (at_builtin; refine wpList_append_N _ rfl (.tmp 33) (.tmp 35) _ rfl w.heap.size 3 i0 _ 1 8 Try.underlying69 hi0' hz0 hz1 hz2 rfl (by omega) (.slice A' N c') N xs rfl (hownq.alloc _) (wq.heap.size + 1) (some ⟨wq.heap.size, 0, none⟩) 1 1 [Value.int .i64 (j : Int)] rfl (reads_one _ _) hone ?_ ?_ ?_ (N + 1) (xs ++ [Value.int .i64 (j : Int)]) rfl rfl ?_; (unfold maxLen; omega); omega; (simp; omega); intro A2 c2 w3 ho3 hb3)
                go_roundw
                case rel => exact ⟨j + 1, N + 1, P, Q, A2, c2, _, by omega, by go_num, rfl, by go_num, by go_num, HP2.out, HQ2.out, by unfold Hid; rw [HS.out, HN.out], ho3, bel⟩
                case measure => simp [intOf]; omega
        · have hcr : same1 s t j = false := by rw [same1_get hlt hlt2]; simp [hq]
          have hne : ¬ (s[j].toNat : Int) = (t[j].toNat : Int) := by intro h; apply hq; apply UInt8.toNat_inj.1; omega
          have hb1 : ((s[j].toNat : Int) != (t[j].toNat : Int)) = true := by rw [bne_iff_ne]; exact hne
          have hb1' : ((s[j].toNat : Int) == (t[j].toNat : Int)) = false := by rw [beq_eq_false_iff_ne]; exact hne
          have HS := Lib.hid (cutN_diff hcr)
          clear hcr hq hne
          by_cases hf : s[j] = 102
          · have hbf : ((s[j].toNat : Int) == 102) = true := by rw [hf]; rfl
            have HP2 : Hid ((P + 1) = cnt 102 (s.data.toList.take (j + 1))) := by unfold Hid; rw [cnt_take_f hlt hf, HP.out]
            clear hf
            by_cases hg : t[j] = 102
            · have hbg : ((t[j].toNat : Int) == 102) = true := by rw [hg]; rfl
              have HQ2 : Hid ((Q + 1) = cnt 102 (t.data.toList.take (j + 1))) := by unfold Hid; rw [cnt_take_f hlt2 hg, HQ.out]
              clear hg
              go_wp2_with (go_at_call 101; refine (unhide HQ1 _).mono ?_; rintro e w' ⟨rfl, rfl⟩)
              go_quiet (fail)
              obtain ⟨wq, hwq⟩ : ∃ W, W = wr.drewN nq := ⟨_, rfl⟩
              have hownq : wq.ownsRow w.heap.size 3 1 (.slice A' N c') N xs := by rw [hwq]; exact hown
              have hbq : Below w.heap.size w wq := by rw [hwq]; exact below_drewN hb _
              rw [← hwq]
              clear hwq hown hb
              have hbs := hbq.size
              go_wp2_with (at_builtin; refine wpList_append_N _ rfl (.tmp 33) (.tmp 35) _ rfl w.heap.size 3 i0 _ 1 8 Try.underlying69 hi0' hz0 hz1 hz2 rfl (by omega) (.slice A' N c') N xs rfl (hownq.alloc _) (wq.heap.size + 1) (some ⟨wq.heap.size, 0, none⟩) 1 1 [Value.int .i64 (j : Int)] rfl (reads_one _ _) hone ?_ ?_ ?_ (N + 1) (xs ++ [Value.int .i64 (j : Int)]) rfl rfl ?_; (unfold maxLen; omega); omega; (simp; omega); intro A2 c2 w3 ho3 hb3)
              go_roundw
              case rel => exact ⟨j + 1, N + 1, (P + 1), (Q + 1), A2, c2, _, by omega, by go_num, rfl, by go_num, by go_num, HP2.out, HQ2.out, by unfold Hid; rw [HS.out, HN.out], ho3, bel⟩
              case measure => simp [intOf]; omega
            · have hbg : ((t[j].toNat : Int) == 102) = false := by rw [beq_eq_false_iff_ne]; intro h; apply hg; apply UInt8.toNat_inj.1; show _ = 102; omega
              have HQ2 : Hid (Q = cnt 102 (t.data.toList.take (j + 1))) := by unfold Hid; rw [cnt_take_d hlt2 hg, HQ.out]
              clear hg
              go_wp2_with (go_at_call 101; refine (unhide HQ1 _).mono ?_; rintro e w' ⟨rfl, rfl⟩)
              go_quiet (fail)
              obtain ⟨wq, hwq⟩ : ∃ W, W = wr.drewN nq := ⟨_, rfl⟩
              have hownq : wq.ownsRow w.heap.size 3 1 (.slice A' N c') N xs := by rw [hwq]; exact hown
              have hbq : Below w.heap.size w wq := by rw [hwq]; exact below_drewN hb _
              rw [← hwq]
              clear hwq hown hb
              have hbs := hbq.size
              go_wp2_with (at_builtin; refine wpList_append_N _ rfl (.tmp 33) (.tmp 35) _ rfl w.heap.size 3 i0 _ 1 8 Try.underlying69 hi0' hz0 hz1 hz2 rfl (by omega) (.slice A' N c') N xs rfl (hownq.alloc _) (wq.heap.size + 1) (some ⟨wq.heap.size, 0, none⟩) 1 1 [Value.int .i64 (j : Int)] rfl (reads_one _ _) hone ?_ ?_ ?_ (N + 1) (xs ++ [Value.int .i64 (j : Int)]) rfl rfl ?_; (unfold maxLen; omega); omega; (simp; omega); intro A2 c2 w3 ho3 hb3)
              go_roundw
              case rel => exact ⟨j + 1, N + 1, (P + 1), Q, A2, c2, _, by omega, by go_num, rfl, by go_num, by go_num, HP2.out, HQ2.out, by unfold Hid; rw [HS.out, HN.out], ho3, bel⟩
              case measure => simp [intOf]; omega
          · have hbf : ((s[j].toNat : Int) == 102) = false := by rw [beq_eq_false_iff_ne]; intro h; apply hf; apply UInt8.toNat_inj.1; show _ = 102; omega
            have HP2 : Hid (P = cnt 102 (s.data.toList.take (j + 1))) := by unfold Hid; rw [cnt_take_d hlt hf, HP.out]
            clear hf
            by_cases hg : t[j] = 102
            · have hbg : ((t[j].toNat : Int) == 102) = true := by rw [hg]; rfl
              have HQ2 : Hid ((Q + 1) = cnt 102 (t.data.toList.take (j + 1))) := by unfold Hid; rw [cnt_take_f hlt2 hg, HQ.out]
              clear hg
              go_wp2_with (go_at_call 101; refine (unhide HQ1 _).mono ?_; rintro e w' ⟨rfl, rfl⟩)
              go_quiet (fail)
              obtain ⟨wq, hwq⟩ : ∃ W, W = wr.drewN nq := ⟨_, rfl⟩
              have hownq : wq.ownsRow w.heap.size 3 1 (.slice A' N c') N xs := by rw [hwq]; exact hown
              have hbq : Below w.heap.size w wq := by rw [hwq]; exact below_drewN hb _
              rw [← hwq]
              clear hwq hown hb
              have hbs := hbq.size
              go_wp2_with (at_builtin; refine wpList_append_N _ rfl (.tmp 33) (.tmp 35) _ rfl w.heap.size 3 i0 _ 1 8 Try.underlying69 hi0' hz0 hz1 hz2 rfl (by omega) (.slice A' N c') N xs rfl (hownq.alloc _) (wq.heap.size + 1) (some ⟨wq.heap.size, 0, none⟩) 1 1 [Value.int .i64 (j : Int)] rfl (reads_one _ _) hone ?_ ?_ ?_ (N + 1) (xs ++ [Value.int .i64 (j : Int)]) rfl rfl ?_; (unfold maxLen; omega); omega; (simp; omega); intro A2 c2 w3 ho3 hb3)
              go_roundw
              case rel => exact ⟨j + 1, N + 1, P, (Q + 1), A2, c2, _, by omega, by go_num, rfl, by go_num, by go_num, HP2.out, HQ2.out, by unfold Hid; rw [HS.out, HN.out], ho3, bel⟩
              case measure => simp [intOf]; omega
            · have hbg : ((t[j].toNat : Int) == 102) = false := by rw [beq_eq_false_iff_ne]; intro h; apply hg; apply UInt8.toNat_inj.1; show _ = 102; omega
              have HQ2 : Hid (Q = cnt 102 (t.data.toList.take (j + 1))) := by unfold Hid; rw [cnt_take_d hlt2 hg, HQ.out]
              clear hg
              go_wp2_with (go_at_call 101; refine (unhide HQ1 _).mono ?_; rintro e w' ⟨rfl, rfl⟩)
              go_quiet (fail)
              obtain ⟨wq, hwq⟩ : ∃ W, W = wr.drewN nq := ⟨_, rfl⟩
              have hownq : wq.ownsRow w.heap.size 3 1 (.slice A' N c') N xs := by rw [hwq]; exact hown
              have hbq : Below w.heap.size w wq := by rw [hwq]; exact below_drewN hb _
              rw [← hwq]
              clear hwq hown hb
              have hbs := hbq.size
              go_wp2_with (at_builtin; refine wpList_append_N _ rfl (.tmp 33) (.tmp 35) _ rfl w.heap.size 3 i0 _ 1 8 Try.underlying69 hi0' hz0 hz1 hz2 rfl (by omega) (.slice A' N c') N xs rfl (hownq.alloc _) (wq.heap.size + 1) (some ⟨wq.heap.size, 0, none⟩) 1 1 [Value.int .i64 (j : Int)] rfl (reads_one _ _) hone ?_ ?_ ?_ (N + 1) (xs ++ [Value.int .i64 (j : Int)]) rfl rfl ?_; (unfold maxLen; omega); omega; (simp; omega); intro A2 c2 w3 ho3 hb3)
              go_roundw
              case rel => exact ⟨j + 1, N + 1, P, Q, A2, c2, _, by omega, by go_num, rfl, by go_num, by go_num, HP2.out, HQ2.out, by unfold Hid; rw [HS.out, HN.out], ho3, bel⟩
              case measure => simp [intOf]; omega
      · have hje : j = s.size := by omega
        subst hje
        go_wp2
        go_ret
        exact ⟨A', c', (by rw [HR.out, ← HN.out]; rfl), hb⟩
end Go.Proofs.Yteffbjddgdjkmaa
