/- The contracts of TurnStrip, IsBalanced, CountBalanced and of the reference's IsAbove. -/
import Derived.Test.YteffbjddgdjkmaaSideP
import Derived.Test.YteffbjddgdjkmaaArea2
import Derived.Sort.WalkB12
import Derived.Lib.SlicesMore
import Derived.Lib.ConvBytes
import Derived.Lib.Hide
import Derived.Deep.LoopGhost
namespace Go.Proofs.Yteffbjddgdjkmaa
open Go.ChangeShapes Go.WideShapes Go.ChangeAt Go.RowKit Go.Sort
set_option linter.unusedVariables false
set_option linter.unusedSimpArgs false
set_option maxRecDepth 10000

def encU (x : UInt8) : Value := .int .u8 (x.toNat : Int)
def bytesV (l : List UInt8) : List Value := l.map encU
theorem bytesV_snoc (l : List UInt8) (x : UInt8) : bytesV (l ++ [x]) = bytesV l ++ [encU x] := by simp [bytesV]
theorem info_u8 : (Try.prog.info? 5).map (fun i => (i.zero, i.size, i.bytes)) = some (some (.int .u8 0), 1, 1) := by kernel_rfl
set_option maxHeartbeats 1600000 in
theorem revB (blk off cap : Nat) (d : Array UInt8) (w : World) (hH : Holds encU w blk off d) (hsz : d.size ≤ 9223372036854775807) :
    Calls Try.prog 99 #[.slice (some ⟨blk, off, none⟩) d.size cap] w fun e w' => e = .returned (.tuple #[]) ∧ ∃ n, w' = putRow encU (Sort.ahead w n) blk off d.reverse := by
  go_enter Try.func99, Try.ntmps99
  go_wp2
  go_loopg [2, 3] d.size (fun k s2 s3 wr => ∃ (i jn : Nat) (jz : Int) (dk : Array UInt8) (n : Nat), s2 = .int .i64 i ∧ s3 = .int .i64 jz ∧ ((i : Int) < jz → jz = jn ∧ jn < d.size) ∧ (¬ (i : Int) < jz → ¬ i < jn) ∧ jn - i ≤ k ∧
    dk.size = d.size ∧ wr = putRow encU (Sort.ahead w n) blk off dk ∧ reverseLoop i jn dk = reverseLoop 0 (d.size - 1) d)
  case atStart => exact ⟨0, d.size - 1, (d.size : Int) - 1, d, 0, rfl, rfl, fun h => ⟨by omega, by omega⟩, fun h => by omega, by omega, rfl, (putRow_self encU w blk off d hH).symm, rfl⟩
  case round =>
    obtain ⟨i, jn, jz, dk, n, rfl, rfl, h1, h2, hk, hds, hwr, heq⟩ := hrel
    by_cases hlt : (i : Int) < jz
    · obtain ⟨rfl, hjn⟩ := h1 hlt
      have hij : i < jn := by omega
      have hHk : Holds encU wr blk off dk := by rw [hwr]; exact holds_putRow encU _ blk off d dk (holds_ahead encU w n blk off d hH) hds
      obtain ⟨ci, fi⟩ := hHk i (by omega)
      obtain ⟨cj, fj⟩ := hHk jn (by omega)
      unfold encU at ci cj
      have A : Aside (wr = putRow encU (Sort.ahead w n) blk off dk) := hwr
      clear hwr hHk hH h1 h2
      go_wp2_with fail
      go_region
      go_wp2
      go_roundg (jn - 1 - (i + 1))
      case measure => omega
      case rel =>
        rw [reverseLoop, if_pos hij] at heq
        exact ⟨i + 1, jn - 1, (jn : Int) - 1, swp dk i jn, n + 1, by simp, rfl, fun h => ⟨by omega, by omega⟩, fun h => by omega, Nat.le_refl _, by rw [size_swp]; exact hds,
          swap_world encU (by omega) (by omega) A.out (by first | rfl | simp [encU, getElem!_pos, show jn < dk.size by omega]) (by first | rfl | simp [encU, getElem!_pos, show i < dk.size by omega]), heq⟩
    · have hnot := h2 hlt
      go_wp2
      go_end0
      refine ⟨rfl, n, ?_⟩
      rw [reverseLoop, if_neg hnot] at heq
      rw [← Lib.reverseLoop_reverse, ← heq]
set_option maxHeartbeats 1600000 in
theorem i_exchanged (s : ByteArray) (w : World) (hs : s.size ≤ 16777216) (h0 : 0 < s.size) :
    Calls Try.prog 98 #[.string s] w fun e w' => e = .returned (.string ⟨(s.data.toList.map swpC).toArray⟩) ∧ Below w.heap.size w w' := by
  obtain ⟨i0, hi0, hz0, hz1, hz2⟩ := info_parts info_u8
  go_enter Try.func98, Try.ntmps98
  go_wp2
  go_loopw [3, 4, 8] (fun o r i wr => ∃ (k : Nat) (A' : Option Addr) (c' : Nat), k ≤ s.size ∧ i = .int .i64 k ∧ o = .slice A' k c' ∧
      wr.ownsRow w.heap.size 5 1 (.slice A' k c') k (bytesV ((s.data.toList.take k).map swpC)) ∧ Below w.heap.size w wr) (fun _ _ i _ => s.size - (intOf i).toNat)
  case atStart => exact ⟨0, some ⟨w.heap.size, 0, none⟩, 0, Nat.zero_le _, rfl, rfl, by first | exact World.ownsRow_made w #[] 0 (Nat.le_refl _) (by unfold maxLen; omega) rfl | simpa [bytesV] using (World.ownsRow_made (e := 5) (size := 1) w #[] 0 (Nat.le_refl _) (by unfold maxLen; omega) rfl), bel⟩
  case round =>
    obtain ⟨k, A', c', hk, rfl, rfl, hown, hb⟩ := hrel
    have hbs := hb.size
    by_cases hlt : k < s.size
    · have HTS := Lib.hid (take_snoc s k hlt)
      by_cases hc : s[k] = 100
      · have hb1 : ((s[k].toNat : Int) == 100) = true := by rw [hc]; rfl
        have HV : Hid (bytesV ((s.data.toList.take k).map swpC) ++ [Value.int .u8 102] = bytesV ((s.data.toList.take (k + 1)).map swpC)) := by unfold Hid; rw [HTS.out, List.map_append, List.map_cons, List.map_nil, bytesV_snoc, hc]; rfl
        clear hc HTS
        have hone : ∀ u ∈ [Value.int .u8 102], u.oneCell' = true := by intro u hu; simp at hu; subst hu; rfl
        have HO := hide hone
        clear hone
        go_wp2_with (at_builtin; refine wpList_append_N _ rfl (.tmp 15) (.tmp 16) _ rfl w.heap.size 5 i0 _ 1 1 Try.underlying22 hi0 hz0 hz1 hz2 rfl (by omega) (.slice A' k c') k _ rfl (hown.alloc _) (wr.heap.size + 1) (some ⟨wr.heap.size, 0, none⟩) 1 1 [Value.int .u8 102] rfl (reads_one _ _) (unhide HO) ?_ ?_ ?_ (k + 1) _ rfl HV.out ?_; (unfold maxLen; omega); omega; (simp; omega); intro A2 c2 w3 ho3 hb3)
        go_roundw
        case rel => exact ⟨k + 1, A2, c2, by omega, by go_num, rfl, ho3, bel⟩
        case measure => simp [intOf]; omega
      · have hb1 : ((s[k].toNat : Int) == 100) = false := by
          rw [beq_eq_false_iff_ne]; intro h; apply hc; apply UInt8.toNat_inj.1; show _ = 100; omega
        have HV : Hid (bytesV ((s.data.toList.take k).map swpC) ++ [Value.int .u8 100] = bytesV ((s.data.toList.take (k + 1)).map swpC)) := by unfold Hid; rw [HTS.out, List.map_append, List.map_cons, List.map_nil, bytesV_snoc]; unfold swpC; rw [if_neg hc]; rfl
        clear hc HTS
        have hone : ∀ u ∈ [Value.int .u8 100], u.oneCell' = true := by intro u hu; simp at hu; subst hu; rfl
        have HO := hide hone
        clear hone
        go_wp2_with (at_builtin; refine wpList_append_N _ rfl (.tmp 18) (.tmp 19) _ rfl w.heap.size 5 i0 _ 1 1 Try.underlying22 hi0 hz0 hz1 hz2 rfl (by omega) (.slice A' k c') k _ rfl (hown.alloc _) (wr.heap.size + 1) (some ⟨wr.heap.size, 0, none⟩) 1 1 [Value.int .u8 100] rfl (reads_one _ _) (unhide HO) ?_ ?_ ?_ (k + 1) _ rfl HV.out ?_; (unfold maxLen; omega); omega; (simp; omega); intro A2 c2 w3 ho3 hb3)
        go_roundw
        case rel => exact ⟨k + 1, A2, c2, by omega, by go_num, rfl, ho3, bel⟩
        case measure => simp [intOf]; omega
    · have hke : k = s.size := by omega
      subst hke
      have ht : s.data.toList.take s.size = s.data.toList := List.take_of_length_le (by simp)
      rw [ht] at hown
      obtain ⟨g, cap, hv, hbg, hglt⟩ := hown.form (by omega)
      have hA2 : A' = some ⟨g, 0, none⟩ := by injection hv
      subst hA2
      clear hv
      have hlen : (s.data.toList.map swpC).length = s.size := by simp
      have hcv := run_convert_bytes_back (P := Try.prog) wr 22 9 5 ⟨g, 0, none⟩ c' (s.data.toList.map swpC) Try.underlying22 Try.underlying5 Try.underlying9
        (fun j hj => by
          have h := hown.cellAt j (by omega)
          have e : (⟨g, 0, none⟩ : Addr).add j = ⟨g, j, none⟩ := by unfold Addr.add; split <;> simp_all
          rw [e, h]
          unfold bytesV
          rw [List.getElem?_map, List.getElem?_eq_getElem hj]
          rfl)
      rw [hlen] at hcv
      clear hown hlen ht
      go_wp2
      go_ret
      exact ⟨rfl, hb⟩
theorem holds_bytes (w : World) (s : ByteArray) (hz : s.size ≤ 16777216) : Holds encU (Lib.bytesWorld w 5 s) w.heap.size 0 s.data := by
  intro j hj
  have hj2 : j < s.size := hj
  refine ⟨?_, ?_⟩
  · rw [Nat.zero_add, Lib.bytesWorld_cell w _ s j hj2]
    have e : s.data.toList.getD j 0 = s.data[j]! := by rw [getElem!_pos s.data j hj]; rw [List.getD_eq_getElem?_getD, List.getElem?_eq_getElem (by simpa using hj)]; rfl
    rw [e]
    rfl
  · rw [Nat.zero_add]
    simp [World.frozen?, Lib.bytesWorld_at_new, Lib.bytesCells]
    omega
theorem below_bytes (w : World) (s : ByteArray) : Below w.heap.size w (Lib.bytesWorld w 5 s) :=
  ⟨rfl, rfl, rfl, by rw [Lib.bytesWorld_size]; omega, fun j hj => Lib.bytesWorld_at_old w _ s j hj⟩
theorem below_putRow (w : World) (n blk off : Nat) (d : Array UInt8) (b : Nat) (h : b ≤ blk) : Below b w (putRow encU (Sort.ahead w n) blk off d) := by
  refine ⟨rfl, rfl, rfl, by simp, fun j hj => ?_⟩
  unfold putRow mapBlock
  simp [Sort.ahead, Array.getElem?_modify, show ¬ blk = j by omega]
set_option maxHeartbeats 1600000 in
theorem i_TurnStrip (s : ByteArray) (w : World) (hs : s.size ≤ 16777216) :
    Calls Try.prog 28 #[.string s] w fun e w' => e = .returned (.string (turnB s)) ∧ Below w.heap.size w w' := by
  cases h1 : isStrip s.data.toList
  · have HP := Lib.hid (turnB_no h1)
    go_enter Try.func28, Try.ntmps28
    go_wp2_with (first | (go_at_call 97; refine (i_IsStrip _ _ (by unfold maxLen; omega)).mono ?_; rw [h1]; rintro e w' ⟨rfl, rfl⟩))
    go_ret
    exact ⟨ret_str HP.out.symm, Below.refl _ _⟩
  · have HP := Lib.hid (turnB_yes h1)
    have hsz : 0 < s.size := by have := strip_len h1; have : s.data.toList.length = s.size := (by simp); omega
    have hlen : (s.data.toList.map swpC).length = s.size := by simp
    obtain ⟨t, ht⟩ : ∃ t : ByteArray, (⟨(s.data.toList.map swpC).toArray⟩ : ByteArray) = t := ⟨_, rfl⟩
    have htz : t.size = s.size := by rw [← ht]; show (s.data.toList.map swpC).toArray.size = _; rw [List.size_toArray, hlen]
    have hex := fun (W : World) => i_exchanged s W hs hsz
    simp only [ht] at hex
    have HT : Hid ((⟨t.data.toList.reverse.toArray⟩ : ByteArray) = turnB s) := by unfold Hid; rw [HP.out, ← ht]; rfl
    have HEX := hide hex
    have htb : t.size ≤ 16777216 := by omega
    clear hex ht hlen HP htz
    go_enter Try.func28, Try.ntmps28
    go_wp2_with (first | (go_at_call 97; refine (i_IsStrip _ _ (by unfold maxLen; omega)).mono ?_; rw [h1]; rintro e w' ⟨rfl, rfl⟩))
    refine (HEX.out _).mono ?_
    rintro e w1 ⟨rfl, hb1⟩
    have hcv := Lib.run_convert_string_bytes (P := Try.prog) w1 9 22 5 t Try.underlying9 Try.underlying22 Try.underlying5
    obtain ⟨gc, hgc⟩ : ∃ x, Go.grownCap w1 t.size 0 5 = x := ⟨_, rfl⟩
    have hH := holds_bytes w1 t (by omega)
    have hb2 := below_bytes w1 t
    obtain ⟨w2, hw2⟩ : ∃ x, Lib.bytesWorld w1 5 t = x := ⟨_, rfl⟩
    simp only [hgc, hw2] at hcv hH hb2
    clear hgc hw2
    have hz1 := hb1.size
    go_wp2_with fail
    have hrv := revB w1.heap.size 0 gc t.data w2 hH (by show t.size ≤ _; omega)
    rw [show t.data.size = t.size from rfl] at hrv
    refine hrv.mono ?_
    rintro e w3 ⟨rfl, n3, hw3⟩
    have hb3 := below_putRow w2 n3 w1.heap.size 0 t.data.reverse w1.heap.size (Nat.le_refl _)
    have hH3 := holds_putRow encU (Sort.ahead w2 n3) w1.heap.size 0 t.data t.data.reverse (holds_ahead encU w2 n3 w1.heap.size 0 t.data hH) (by simp)
    rw [← hw3] at hb3 hH3
    clear hw3 hcv
    have hl3 : t.data.toList.reverse.length = t.size := by simp
    have hcv := run_convert_bytes_back (P := Try.prog) w3 22 9 5 ⟨w1.heap.size, 0, none⟩ gc t.data.toList.reverse Try.underlying22 Try.underlying5 Try.underlying9
      (fun j hj => by
        have hj2 : j < t.data.reverse.size := by simpa using hj
        have h := (hH3 j hj2).1
        have e : (⟨w1.heap.size, 0, none⟩ : Addr).add j = ⟨w1.heap.size, j, none⟩ := by unfold Addr.add; split <;> simp_all
        rw [Nat.zero_add] at h
        rw [e, h, getElem!_pos t.data.reverse j hj2]
        simp [encU])
    rw [hl3, HT.out] at hcv
    clear hl3 hH hH3
    go_wp2
    go_ret
    exact ⟨rfl, hb1.trans ((hb2.trans (hb3.mono (by omega))).mono hz1)⟩
set_option maxHeartbeats 1600000 in
theorem i_IsBalanced (s : ByteArray) (w : World) (hs : s.size ≤ 16777216) (h1 : isStrip s.data.toList = true) :
    Calls Try.prog 30 #[.string s] w fun e w' => e = .returned (.bool (decide (turnB s = s))) ∧ Below w.heap.size w w' := by
  have hex := fun (W : World) => i_TurnStrip s W hs
  obtain ⟨t, ht⟩ : ∃ t, turnB s = t := ⟨_, rfl⟩
  simp only [ht] at hex ⊢
  have HEX := hide hex
  clear hex ht
  obtain ⟨b, hb⟩ : ∃ b, decide (t = s) = b := ⟨_, rfl⟩
  have hq : (t.toList == s.toList) = b := by
    rw [← hb]
    by_cases q : t = s
    · rw [beq_toList_true q, decide_eq_true q]
    · rw [beq_toList_false q, decide_eq_false q]
  rw [hb]
  clear hb
  go_enter Try.func30, Try.ntmps30
  go_wp2_with (first | (go_at_call 97; refine (i_IsStrip _ _ (by unfold maxLen; omega)).mono ?_; rw [h1]; rintro e w' ⟨rfl, rfl⟩) | (go_at_call 28; refine (HEX.out _).mono ?_; rintro e w1 ⟨rfl, hb1⟩))
  go_ret
  exact ⟨rfl, hb1⟩
set_option maxHeartbeats 800000 in
theorem i_CountBalanced (n : Nat) (w : World) (h1 : 1 ≤ n) (h2 : n ≤ 8) :
    Calls Try.prog 36 #[.int .i64 n] w fun e w' => e = .returned (.int .i64 (wrap64 (2 ^ n))) ∧ w' = w := by
  go_enter Try.func36, Try.ntmps36
  have hs1 : isStepsB (n : Int) = true := by simp [isStepsB, inB]; omega
  go_wp2_with (go_at_call 103; refine (i_isSteps _ _).mono ?_; rw [hs1]; rintro e w' ⟨rfl, rfl⟩)
  go_ret
  exact ⟨rfl, rfl⟩
end Go.Proofs.Yteffbjddgdjkmaa
