/- The contracts of HeightsOf of both packages. -/
import Derived.Test.YteffbjddgdjkmaaArea1
import Derived.Deep.Upon
namespace Go.Proofs.Yteffbjddgdjkmaa
open Go.ChangeShapes Go.WideShapes Go.ChangeAt Go.RowKit
set_option linter.unusedVariables false
set_option maxRecDepth 10000

theorem ints_snoc (l : List Int) (x : Int) : ints (l ++ [x]) = ints l ++ [Value.int .i64 x] := by simp [ints]
theorem htsOf_len (l : List UInt8) : (htsOf l).length = cnt 102 l := hts_len _ _
theorem cnt_take_le (c : UInt8) (l : List UInt8) (k : Nat) : cnt c (l.take k) ≤ k := by
  have := cnt_le c (l.take k); rw [List.length_take] at this; omega
theorem fresh_ints {w wr : World} {N : Nat} {A : Option Addr} {c : Nat} {l : List Int} (hN : l.length = N) (ho : wr.ownsRow w.heap.size 3 1 (.slice A N c) N (ints l)) (hb : Below w.heap.size w wr) : FreshInts w.heap.size l w (.returned (.slice A N c)) wr := by
  subst hN; exact ⟨A, c, rfl, ho, hb⟩
set_option maxHeartbeats 1600000 in
theorem i_HeightsOf (s : ByteArray) (w : World) (hs : s.size ≤ 16777216) (h1 : isStrip s.data.toList = true) :
    Calls Try.prog 159 #[.string s] w (FreshInts w.heap.size (htsOf s.data.toList) w) := by
  have HD := Lib.hid (down_strip h1)
  have hcl := cnt_le 100 s.data.toList
  have hlen : s.data.toList.length = s.size := by simp
  have HLEN := Lib.hid hlen
  have hcb : (cnt 100 s.data.toList : Int) ≤ 16777216 := by omega
  clear hcl hlen
  obtain ⟨i0, hi0, hz0, hz1, hz2⟩ := info_parts info_int
  go_enter Try.func159, Try.ntmps159
  go_wp2_with (first | (go_at_call 97; refine (i_IsStrip _ _ (by unfold maxLen; omega)).mono ?_; rintro e w' ⟨rfl, rfl⟩) | (go_at_call 143; refine (i_DownOf _ _ (by unfold maxLen; omega)).mono ?_; rw [HD.out]; rintro e w' ⟨rfl, rfl⟩))
  go_loopw [3, 4, 14] (fun o h i wr => ∃ (k N : Nat) (A' : Option Addr) (c' : Nat), k ≤ s.size ∧ N ≤ k ∧ i = .int .i64 k ∧ o = .slice A' N c' ∧ h = .int .i64 (hgt (cnt 100 s.data.toList) (s.data.toList.take k)) ∧ Hid ((hts (cnt 100 s.data.toList) (s.data.toList.take k)).length = N) ∧
      wr.ownsRow w.heap.size 3 1 (.slice A' N c') N (ints (hts (cnt 100 s.data.toList) (s.data.toList.take k))) ∧ Below w.heap.size w wr) (fun _ _ i _ => s.size - (intOf i).toNat)
  case atStart => exact ⟨0, 0, some ⟨w.heap.size, 0, none⟩, 0, Nat.zero_le _, Nat.le_refl _, rfl, rfl, by simp [hgt], by unfold Hid; simp [hts], by first | exact World.ownsRow_made w #[] 0 (Nat.le_refl _) (by unfold maxLen; omega) rfl | simpa [hts, ints] using (World.ownsRow_made (e := 3) (size := 1) w #[] 0 (Nat.le_refl _) (by unfold maxLen; omega) rfl), bel⟩
  case round =>
    obtain ⟨k, N, A', c', hk, hNk, rfl, rfl, rfl, HN, hown, hb⟩ := hrel
    have hbs := hb.size
    have hh := hgt_bd (cnt 100 s.data.toList) (s.data.toList.take k)
    rw [List.length_take, HLEN.out] at hh
    have hh1 : -16777216 ≤ hgt (cnt 100 s.data.toList) (s.data.toList.take k) := by omega
    have hh2 : hgt (cnt 100 s.data.toList) (s.data.toList.take k) ≤ 16777216 := by omega
    clear hh
    by_cases hlt : k < s.size
    · have HTS := Lib.hid (take_snoc s k hlt)
      by_cases hc : s[k] = 102
      · have hb1 : ((s[k].toNat : Int) == 102) = true := by rw [hc]; rfl
        have HH : Hid (hgt (cnt 100 s.data.toList) (s.data.toList.take (k + 1)) = hgt (cnt 100 s.data.toList) (s.data.toList.take k)) := by unfold Hid; rw [HTS.out, hgt_snoc, if_pos hc]
        have HT : Hid (hts (cnt 100 s.data.toList) (s.data.toList.take (k + 1)) = hts (cnt 100 s.data.toList) (s.data.toList.take k) ++ [hgt (cnt 100 s.data.toList) (s.data.toList.take k)]) := by unfold Hid; rw [HTS.out, hts_snoc, if_pos hc]
        clear hc
        have hone : ∀ u ∈ [Value.int .i64 (hgt (cnt 100 s.data.toList) (s.data.toList.take k))], u.oneCell' = true := by intro u hu; simp at hu; subst hu; rfl
        have HO := hide hone
        clear hone
        go_wp2_with (at_builtin; refine wpList_append_N _ rfl (.tmp 21) (.tmp 23) _ rfl w.heap.size 3 i0 _ 1 8 Try.underlying69 hi0 hz0 hz1 hz2 rfl (by omega) (.slice A' N c') N _ rfl (hown.alloc _) (wr.heap.size + 1) (some ⟨wr.heap.size, 0, none⟩) 1 1 [Value.int .i64 (hgt (cnt 100 s.data.toList) (s.data.toList.take k))] rfl (reads_one _ _) (unhide HO) ?_ ?_ ?_ (N + 1) _ rfl (ints_snoc _ _).symm ?_; (unfold maxLen; omega); omega; (simp; omega); intro A2 c2 w3 ho3 hb3)
        go_roundw
        case rel => exact ⟨k + 1, N + 1, A2, c2, by omega, by omega, by go_num, rfl, by rw [HH.out], by unfold Hid; rw [HT.out, List.length_append, HN.out]; rfl, by rw [HT.out]; exact ho3, bel⟩
        case measure => simp [intOf]; omega
      · have hb1 : ((s[k].toNat : Int) == 102) = false := by
          rw [beq_eq_false_iff_ne]; intro h; apply hc; apply UInt8.toNat_inj.1; show _ = 102; omega
        have HH : Hid (hgt (cnt 100 s.data.toList) (s.data.toList.take (k + 1)) = hgt (cnt 100 s.data.toList) (s.data.toList.take k) - 1) := by unfold Hid; rw [HTS.out, hgt_snoc, if_neg hc]
        have HT : Hid (hts (cnt 100 s.data.toList) (s.data.toList.take (k + 1)) = hts (cnt 100 s.data.toList) (s.data.toList.take k)) := by unfold Hid; rw [HTS.out, hts_snoc, if_neg hc, List.append_nil]
        clear hc
        go_wp2
        go_roundw
        case rel => exact ⟨k + 1, N, A', c', by omega, by omega, by go_num, rfl, by rw [HH.out], by unfold Hid; rw [HT.out]; exact HN.out, by rw [HT.out]; exact hown, hb⟩
        case measure => simp [intOf]; omega
    · have hke : k = s.size := by omega
      have ht : s.data.toList.take k = s.data.toList := List.take_of_length_le (by rw [HLEN.out]; omega)
      rw [ht] at hown HN
      have HF := hide (fresh_ints (l := htsOf s.data.toList) HN.out hown hb)
      clear ht hown hh1 hh2
      subst hke
      go_wp2
      go_ret
      exact unhide HF
set_option maxHeartbeats 1600000 in
theorem s_l07Heights (s : ByteArray) (w : World) (hs : s.size ≤ 16777216) :
    Calls Try.prog 100 #[.string s] w (FreshInts w.heap.size (htsOf s.data.toList) w) := by
  have hcl := cnt_le 100 s.data.toList
  have hlen : s.data.toList.length = s.size := by simp
  have HLEN := Lib.hid hlen
  have hcb : (cnt 100 s.data.toList : Int) ≤ 16777216 := by omega
  clear hcl hlen
  obtain ⟨i0, hi0, hz0, hz1, hz2⟩ := info_parts info_int
  go_enter Try.func100, Try.ntmps100
  go_wp2_with (first | (go_at_call 154; refine (s_l02Count s 100 _ (by unfold maxLen; omega)).mono ?_; rintro e w' ⟨rfl, rfl⟩))
  go_loopw [3, 4, 5] (fun o h i wr => ∃ (k N : Nat) (A' : Option Addr) (c' : Nat), k ≤ s.size ∧ N ≤ k ∧ i = .int .i64 k ∧ o = .slice A' N c' ∧ h = .int .i64 (hgt (cnt 100 s.data.toList) (s.data.toList.take k)) ∧ Hid ((hts (cnt 100 s.data.toList) (s.data.toList.take k)).length = N) ∧
      wr.ownsRow w.heap.size 3 1 (.slice A' N c') N (ints (hts (cnt 100 s.data.toList) (s.data.toList.take k))) ∧ Below w.heap.size w wr) (fun _ _ i _ => s.size - (intOf i).toNat)
  case atStart => exact ⟨0, 0, some ⟨w.heap.size, 0, none⟩, 0, Nat.zero_le _, Nat.le_refl _, rfl, rfl, by simp [hgt], by unfold Hid; simp [hts], by first | exact World.ownsRow_made w #[] 0 (Nat.le_refl _) (by unfold maxLen; omega) rfl | simpa [hts, ints] using (World.ownsRow_made (e := 3) (size := 1) w #[] 0 (Nat.le_refl _) (by unfold maxLen; omega) rfl), bel⟩
  case round =>
    obtain ⟨k, N, A', c', hk, hNk, rfl, rfl, rfl, HN, hown, hb⟩ := hrel
    have hbs := hb.size
    have hh := hgt_bd (cnt 100 s.data.toList) (s.data.toList.take k)
    rw [List.length_take, HLEN.out] at hh
    have hh1 : -16777216 ≤ hgt (cnt 100 s.data.toList) (s.data.toList.take k) := by omega
    have hh2 : hgt (cnt 100 s.data.toList) (s.data.toList.take k) ≤ 16777216 := by omega
    clear hh
    by_cases hlt : k < s.size
    · have HTS := Lib.hid (take_snoc s k hlt)
      by_cases hc : s[k] = 102
      · have hb1 : ((s[k].toNat : Int) == 102) = true := by rw [hc]; rfl
        have HH : Hid (hgt (cnt 100 s.data.toList) (s.data.toList.take (k + 1)) = hgt (cnt 100 s.data.toList) (s.data.toList.take k)) := by unfold Hid; rw [HTS.out, hgt_snoc, if_pos hc]
        have HT : Hid (hts (cnt 100 s.data.toList) (s.data.toList.take (k + 1)) = hts (cnt 100 s.data.toList) (s.data.toList.take k) ++ [hgt (cnt 100 s.data.toList) (s.data.toList.take k)]) := by unfold Hid; rw [HTS.out, hts_snoc, if_pos hc]
        clear hc
        have hone : ∀ u ∈ [Value.int .i64 (hgt (cnt 100 s.data.toList) (s.data.toList.take k))], u.oneCell' = true := by intro u hu; simp at hu; subst hu; rfl
        have HO := hide hone
        clear hone
        go_wp2_with (at_builtin; refine wpList_append_N _ rfl (.tmp 19) (.tmp 21) _ rfl w.heap.size 3 i0 _ 1 8 Try.underlying69 hi0 hz0 hz1 hz2 rfl (by omega) (.slice A' N c') N _ rfl (hown.alloc _) (wr.heap.size + 1) (some ⟨wr.heap.size, 0, none⟩) 1 1 [Value.int .i64 (hgt (cnt 100 s.data.toList) (s.data.toList.take k))] rfl (reads_one _ _) (unhide HO) ?_ ?_ ?_ (N + 1) _ rfl (ints_snoc _ _).symm ?_; (unfold maxLen; omega); omega; (simp; omega); intro A2 c2 w3 ho3 hb3)
        go_roundw
        case rel => exact ⟨k + 1, N + 1, A2, c2, by omega, by omega, by go_num, rfl, by rw [HH.out], by unfold Hid; rw [HT.out, List.length_append, HN.out]; rfl, by rw [HT.out]; exact ho3, bel⟩
        case measure => simp [intOf]; omega
      · have hb1 : ((s[k].toNat : Int) == 102) = false := by
          rw [beq_eq_false_iff_ne]; intro h; apply hc; apply UInt8.toNat_inj.1; show _ = 102; omega
        have HH : Hid (hgt (cnt 100 s.data.toList) (s.data.toList.take (k + 1)) = hgt (cnt 100 s.data.toList) (s.data.toList.take k) - 1) := by unfold Hid; rw [HTS.out, hgt_snoc, if_neg hc]
        have HT : Hid (hts (cnt 100 s.data.toList) (s.data.toList.take (k + 1)) = hts (cnt 100 s.data.toList) (s.data.toList.take k)) := by unfold Hid; rw [HTS.out, hts_snoc, if_neg hc, List.append_nil]
        clear hc
        go_wp2
        go_roundw
        case rel => exact ⟨k + 1, N, A', c', by omega, by omega, by go_num, rfl, by rw [HH.out], by unfold Hid; rw [HT.out]; exact HN.out, by rw [HT.out]; exact hown, hb⟩
        case measure => simp [intOf]; omega
    · have hke : k = s.size := by omega
      have ht : s.data.toList.take k = s.data.toList := List.take_of_length_le (by rw [HLEN.out]; omega)
      rw [ht] at hown HN
      have HF := hide (fresh_ints (l := htsOf s.data.toList) HN.out hown hb)
      clear ht hown hh1 hh2
      subst hke
      go_wp2
      go_ret
      exact unhide HF
end Go.Proofs.Yteffbjddgdjkmaa
