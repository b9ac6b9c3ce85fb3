/- Contracts of the program's and the reference's functions (Area1, Area2, Area3, Area4). -/
import Derived.Deep.RegionHeld3
import Derived.Deep.Upon
import Derived.IntWalk
import Derived.Test.YtccjedongkokoaaRows
import Derived.Test.YtccjedongkokoaaQLb
namespace Go.Proofs.Ytccjedongkokoaa
open Go.ChangeShapes Go.WideShapes Go.ChangeAt Go.RowKit
set_option linter.unusedVariables false
set_option maxRecDepth 10000
def sameFrame (a b : List UInt8) : Bool := (isStrip a && isStrip b) && ((cnt 100 a == cnt 100 b) && (cnt 102 a == cnt 102 b))
theorem strip_len {l : List UInt8} (h : isStrip l = true) : cnt 100 l + cnt 102 l = l.length ∧ 1 ≤ cnt 100 l ∧ cnt 100 l ≤ 8 ∧ 1 ≤ cnt 102 l ∧ cnt 102 l ≤ 8 := by
  unfold isStrip at h
  simp only [Bool.and_eq_true, beq_iff_eq, inB, decide_eq_true_eq] at h
  omega
theorem down_strip {l : List UInt8} (h : isStrip l = true) : downOf l = cnt 100 l := by unfold downOf; rw [if_pos h]
theorem forward_strip {l : List UInt8} (h : isStrip l = true) : forwardOf l = cnt 102 l := by unfold forwardOf; rw [if_pos h]
theorem sf_no1 {a b : List UInt8} (h : isStrip a = false) : sameFrame a b = false := by unfold sameFrame; rw [h]; rfl
theorem sf_no2 {a b : List UInt8} (h : isStrip b = false) : sameFrame a b = false := by unfold sameFrame; rw [h]; simp
theorem sf_yes {a b : List UInt8} (h : sameFrame a b = true) : isStrip a = true ∧ isStrip b = true ∧ cnt 100 a = cnt 100 b ∧ cnt 102 a = cnt 102 b := by
  unfold sameFrame at h
  simp only [Bool.and_eq_true, beq_iff_eq] at h
  exact ⟨h.1.1, h.1.2, h.2.1, h.2.2⟩
theorem sf_len {a b : List UInt8} (ha : isStrip a = true) (hb : isStrip b = true) (h : a.length ≠ b.length) : sameFrame a b = false := by
  cases hs : sameFrame a b
  · rfl
  · obtain ⟨_, _, h1, h2⟩ := sf_yes hs
    have := strip_len ha; have := strip_len hb; omega
theorem sf_down {a b : List UInt8} (ha : isStrip a = true) (hb : isStrip b = true) (h : downOf a ≠ downOf b) : sameFrame a b = false := by
  cases hs : sameFrame a b
  · rfl
  · obtain ⟨_, _, h1, h2⟩ := sf_yes hs
    rw [down_strip ha, down_strip hb] at h; omega
theorem sf_forward {a b : List UInt8} (ha : isStrip a = true) (hb : isStrip b = true) (h : forwardOf a ≠ forwardOf b) : sameFrame a b = false := by
  cases hs : sameFrame a b
  · rfl
  · obtain ⟨_, _, h1, h2⟩ := sf_yes hs
    rw [forward_strip ha, forward_strip hb] at h; omega
theorem sf_mk {a b : List UInt8} (ha : isStrip a = true) (hb : isStrip b = true) (h : a.length = b.length) (hd : downOf a = downOf b) : sameFrame a b = true := by
  rw [down_strip ha, down_strip hb] at hd
  have := strip_len ha; have := strip_len hb
  unfold sameFrame
  rw [ha, hb]
  simp only [Bool.and_eq_true, beq_iff_eq, Bool.true_and]
  omega
theorem sf_mk2 {a b : List UInt8} (ha : isStrip a = true) (hb : isStrip b = true) (hd : downOf a = downOf b) (hf : forwardOf a = forwardOf b) : sameFrame a b = true := by
  rw [down_strip ha, down_strip hb] at hd
  rw [forward_strip ha, forward_strip hb] at hf
  unfold sameFrame
  rw [ha, hb]
  simp only [Bool.and_eq_true, beq_iff_eq, Bool.true_and]
  omega
set_option maxHeartbeats 1600000 in
theorem i_SameFrame (s t : ByteArray) (w : World) (hs : s.size ≤ 16777216) (ht : t.size ≤ 16777216) :
    Calls Try.prog 108 #[.string s, .string t] w fun e w' => e = .returned (.bool (sameFrame s.data.toList t.data.toList)) ∧ w = w' := by
  have arm1 := fun (x : ByteArray) (w : World) (h : x.size ≤ 16777216) => i_IsStrip x w (by unfold maxLen; omega)
  have ARM1 := hide arm1
  have arm2 := fun (x : ByteArray) (w : World) (h : x.size ≤ 16777216) => i_DownOf x w (by unfold maxLen; omega)
  have ARM2 := hide arm2
  clear arm1 arm2
  cases h1 : isStrip s.data.toList
  · have HP := Lib.hid (sf_no1 (b := t.data.toList) h1)
    go_enter Try.func108, Try.ntmps108
    go_wp2_with (first | (go_at_call 125; refine (unhide ARM1 _ _ (by assumption)).mono ?_; rintro e w' ⟨rfl, rfl⟩))
    go_ret
    exact ⟨ret_bool HP.out.symm, rfl⟩
  · cases h2 : isStrip t.data.toList
    · have HP := Lib.hid (sf_no2 (a := s.data.toList) h2)
      go_enter Try.func108, Try.ntmps108
      go_wp2_with (first | (go_at_call 125; refine (unhide ARM1 _ _ (by assumption)).mono ?_; rintro e w' ⟨rfl, rfl⟩))
      go_ret
      exact ⟨ret_bool HP.out.symm, rfl⟩
    · by_cases h3 : s.size = t.size
      · have e3 : ((s.size : Int) == (t.size : Int)) = true := by rw [h3]; simp
        have H3 := Lib.hid h3
        clear h3
        by_cases h4 : downOf s.data.toList = downOf t.data.toList
        · have HP := Lib.hid (sf_mk h1 h2 (by simpa using H3.out) h4)
          have e4 : (downOf s.data.toList == downOf t.data.toList) = true := by rw [h4]; simp
          clear h4
          go_enter Try.func108, Try.ntmps108
          go_wp2_with (first | (go_at_call 125; refine (unhide ARM1 _ _ (by assumption)).mono ?_; rintro e w' ⟨rfl, rfl⟩) | (go_at_call 87; refine (unhide ARM2 _ _ (by assumption)).mono ?_; rintro e w' ⟨rfl, rfl⟩))
          go_ret
          exact ⟨ret_bool HP.out.symm, rfl⟩
        · have HP := Lib.hid (sf_down h1 h2 h4)
          have e4 : (downOf s.data.toList == downOf t.data.toList) = false := by simpa using h4
          clear h4
          go_enter Try.func108, Try.ntmps108
          go_wp2_with (first | (go_at_call 125; refine (unhide ARM1 _ _ (by assumption)).mono ?_; rintro e w' ⟨rfl, rfl⟩) | (go_at_call 87; refine (unhide ARM2 _ _ (by assumption)).mono ?_; rintro e w' ⟨rfl, rfl⟩))
          go_ret
          exact ⟨ret_bool HP.out.symm, rfl⟩
      · have HP := Lib.hid (sf_len h1 h2 (by simpa using h3))
        have e3 : ((s.size : Int) == (t.size : Int)) = false := by simpa using (show (s.size : Int) ≠ t.size by omega)
        clear h3
        go_enter Try.func108, Try.ntmps108
        go_wp2_with (first | (go_at_call 125; refine (unhide ARM1 _ _ (by assumption)).mono ?_; rintro e w' ⟨rfl, rfl⟩))
        go_ret
        exact ⟨ret_bool HP.out.symm, rfl⟩
set_option maxHeartbeats 1600000 in
theorem s_SameFrame (s t : ByteArray) (w : World) (hs : s.size ≤ 16777216) (ht : t.size ≤ 16777216) :
    Calls Try.prog 136 #[.string s, .string t] w fun e w' => e = .returned (.bool (sameFrame s.data.toList t.data.toList)) ∧ w = w' := by
  have arm1 := fun (x : ByteArray) (w : World) (h : x.size ≤ 16777216) => s_IsStrip x w (by unfold maxLen; omega)
  have ARM1 := hide arm1
  have arm2 := fun (x : ByteArray) (w : World) (h : x.size ≤ 16777216) => s_DownOf x w (by unfold maxLen; omega)
  have ARM2 := hide arm2
  have arm3 := fun (x : ByteArray) (w : World) (h : x.size ≤ 16777216) => s_ForwardOf x w (by unfold maxLen; omega)
  have ARM3 := hide arm3
  clear arm1 arm2 arm3
  cases h1 : isStrip s.data.toList
  · have HP := Lib.hid (sf_no1 (b := t.data.toList) h1)
    go_enter Try.func136, Try.ntmps136
    go_wp2_with (first | (go_at_call 100; refine (unhide ARM1 _ _ (by assumption)).mono ?_; rintro e w' ⟨rfl, rfl⟩))
    go_ret
    exact ⟨ret_bool HP.out.symm, rfl⟩
  · cases h2 : isStrip t.data.toList
    · have HP := Lib.hid (sf_no2 (a := s.data.toList) h2)
      go_enter Try.func136, Try.ntmps136
      go_wp2_with (first | (go_at_call 100; refine (unhide ARM1 _ _ (by assumption)).mono ?_; rintro e w' ⟨rfl, rfl⟩))
      go_ret
      exact ⟨ret_bool HP.out.symm, rfl⟩
    · by_cases h4 : downOf s.data.toList = downOf t.data.toList
      · have e4 : (downOf s.data.toList == downOf t.data.toList) = true := by rw [h4]; simp
        have H4 := Lib.hid h4
        clear h4
        by_cases h5 : forwardOf s.data.toList = forwardOf t.data.toList
        · have e5 : (forwardOf s.data.toList == forwardOf t.data.toList) = true := by rw [h5]; simp
          have HP := Lib.hid (sf_mk2 h1 h2 H4.out h5)
          clear h5
          go_enter Try.func136, Try.ntmps136
          go_wp2_with (first | (go_at_call 100; refine (unhide ARM1 _ _ (by assumption)).mono ?_; rintro e w' ⟨rfl, rfl⟩) | (go_at_call 97; refine (unhide ARM2 _ _ (by assumption)).mono ?_; rintro e w' ⟨rfl, rfl⟩) | (go_at_call 98; refine (unhide ARM3 _ _ (by assumption)).mono ?_; rintro e w' ⟨rfl, rfl⟩))
          go_ret
          exact ⟨ret_bool HP.out.symm, rfl⟩
        · have e5 : (forwardOf s.data.toList == forwardOf t.data.toList) = false := by simpa using h5
          have HP := Lib.hid (sf_forward h1 h2 h5)
          clear h5
          go_enter Try.func136, Try.ntmps136
          go_wp2_with (first | (go_at_call 100; refine (unhide ARM1 _ _ (by assumption)).mono ?_; rintro e w' ⟨rfl, rfl⟩) | (go_at_call 97; refine (unhide ARM2 _ _ (by assumption)).mono ?_; rintro e w' ⟨rfl, rfl⟩) | (go_at_call 98; refine (unhide ARM3 _ _ (by assumption)).mono ?_; rintro e w' ⟨rfl, rfl⟩))
          go_ret
          exact ⟨ret_bool HP.out.symm, rfl⟩
      · have e4 : (downOf s.data.toList == downOf t.data.toList) = false := by simpa using h4
        have HP := Lib.hid (sf_down h1 h2 h4)
        clear h4
        go_enter Try.func136, Try.ntmps136
        go_wp2_with (first | (go_at_call 100; refine (unhide ARM1 _ _ (by assumption)).mono ?_; rintro e w' ⟨rfl, rfl⟩) | (go_at_call 97; refine (unhide ARM2 _ _ (by assumption)).mono ?_; rintro e w' ⟨rfl, rfl⟩))
        go_ret
        exact ⟨ret_bool HP.out.symm, rfl⟩
def hgt (u : Int) : List UInt8 → Int
  | [] => u
  | c :: l => if c = 102 then hgt u l else hgt (u - 1) l
def hts (u : Int) : List UInt8 → List Int
  | [] => []
  | c :: l => if c = 102 then u :: hts u l else hts (u - 1) l
theorem hgt_snoc (u : Int) (l : List UInt8) (c : UInt8) : hgt u (l ++ [c]) = if c = 102 then hgt u l else hgt u l - 1 := by
  induction l generalizing u with
  | nil => simp [hgt]
  | cons x l ih => simp only [List.cons_append, hgt, ih]; split <;> rfl
theorem hts_snoc (u : Int) (l : List UInt8) (c : UInt8) : hts u (l ++ [c]) = hts u l ++ if c = 102 then [hgt u l] else [] := by
  induction l generalizing u with
  | nil => simp [hts, hgt]
  | cons x l ih => simp only [List.cons_append, hts, hgt, ih]; split <;> simp
theorem hts_len (u : Int) (l : List UInt8) : (hts u l).length = cnt 102 l := by
  induction l generalizing u with
  | nil => rfl
  | cons x l ih =>
    simp only [hts, cnt, List.count_cons]
    split
    · rename_i h; subst h; simp [ih, cnt]
    · rename_i h; simp [ih, cnt, h]
theorem hgt_bd (u : Int) (l : List UInt8) : u - l.length ≤ hgt u l ∧ hgt u l ≤ u := by
  induction l generalizing u with
  | nil => simp [hgt]
  | cons x l ih => simp only [hgt, List.length_cons]; split <;> (first | have := ih u | skip) <;> have := ih (u - 1) <;> omega
theorem hts_bd (u : Int) (l : List UInt8) : ∀ x ∈ hts u l, u - l.length ≤ x ∧ x ≤ u := by
  induction l generalizing u with
  | nil => intro x h; cases h
  | cons c l ih =>
    intro x h
    simp only [hts] at h
    split at h
    · rcases List.mem_cons.1 h with rfl | h
      · simp only [List.length_cons]; omega
      · have := ih u x h; simp only [List.length_cons]; omega
    · have := ih (u - 1) x h; simp only [List.length_cons]; omega
def htsOf (l : List UInt8) : List Int := hts (cnt 100 l) l
theorem info_int : (Try.prog.info? 3).map (fun i => (i.zero, i.size, i.bytes)) = some (some (.int .i64 0), 1, 8) := by kernel_rfl
def ints (l : List Int) : List Value := l.map (Value.int .i64)
def FreshInts (base : Nat) (l : List Int) (w : World) (e : Ending) (w' : World) : Prop :=
  ∃ A c, e = .returned (.slice A l.length c) ∧ w'.ownsRow base 3 1 (.slice A l.length c) l.length (ints l) ∧ Below w.heap.size w w'
end Go.Proofs.Ytccjedongkokoaa
namespace Go.Proofs.Ytccjedongkokoaa
open Go.ChangeShapes Go.WideShapes Go.ChangeAt Go.RowKit
set_option linter.unusedVariables false
set_option maxRecDepth 10000
theorem ints_snoc (l : List Int) (x : Int) : ints (l ++ [x]) = ints l ++ [Value.int .i64 x] := by simp [ints]
theorem htsOf_len (l : List UInt8) : (htsOf l).length = cnt 102 l := hts_len _ _
theorem fresh_ints {w wr : World} {N : Nat} {A : Option Addr} {c : Nat} {l : List Int} (hN : l.length = N) (ho : wr.ownsRow w.heap.size 3 1 (.slice A N c) N (ints l)) (hb : Below w.heap.size w wr) : FreshInts w.heap.size l w (.returned (.slice A N c)) wr := by
  subst hN; exact ⟨A, c, rfl, ho, hb⟩
set_option maxHeartbeats 1600000 in
theorem i_HeightsOf (s : ByteArray) (w : World) (hs : s.size ≤ 16777216) (h1 : isStrip s.data.toList = true) :
    Calls Try.prog 112 #[.string s] w (FreshInts w.heap.size (htsOf s.data.toList) w) := by
  have HD := Lib.hid (down_strip h1)
  have hcl := cnt_le 100 s.data.toList
  have hlen : s.data.toList.length = s.size := by simp
  have HLEN := Lib.hid hlen
  have hcb : (cnt 100 s.data.toList : Int) ≤ 16777216 := by omega
  clear hcl hlen
  obtain ⟨i0, hi0, hz0, hz1, hz2⟩ := info_parts info_int
  go_enter Try.func112, Try.ntmps112
  go_wp2_with (first | (go_at_call 125; refine (i_IsStrip _ _ (by unfold maxLen; omega)).mono ?_; rintro e w' ⟨rfl, rfl⟩) | (go_at_call 87; refine (i_DownOf _ _ (by unfold maxLen; omega)).mono ?_; rw [HD.out]; rintro e w' ⟨rfl, rfl⟩))
  go_loopw [3, 4, 14] (fun o h i wr => ∃ (k N : Nat) (A' : Option Addr) (c' : Nat), k ≤ s.size ∧ N ≤ k ∧ i = .int .i64 k ∧ o = .slice A' N c' ∧ h = .int .i64 (hgt (cnt 100 s.data.toList) (s.data.toList.take k)) ∧ Hid ((hts (cnt 100 s.data.toList) (s.data.toList.take k)).length = N) ∧
      wr.ownsRow w.heap.size 3 1 (.slice A' N c') N (ints (hts (cnt 100 s.data.toList) (s.data.toList.take k))) ∧ Below w.heap.size w wr) (fun _ _ i _ => s.size - (intOf i).toNat)
  case atStart => exact ⟨0, 0, some ⟨w.heap.size, 0, none⟩, 0, Nat.zero_le _, Nat.le_refl _, rfl, rfl, by simp [hgt], by unfold Hid; simp [hts], by first | exact World.ownsRow_made w #[] 0 (Nat.le_refl _) (by unfold maxLen; omega) rfl | simpa [hts, ints] using (World.ownsRow_made (e := 3) (size := 1) w #[] 0 (Nat.le_refl _) (by unfold maxLen; omega) rfl), bel⟩
  case round =>
    obtain ⟨k, N, A', c', hk, hNk, rfl, rfl, rfl, HN, hown, hb⟩ := hrel
    have hbs := hb.size
    have hh := hgt_bd (cnt 100 s.data.toList) (s.data.toList.take k)
    rw [List.length_take, HLEN.out] at hh
    have hh1 : -16777216 ≤ hgt (cnt 100 s.data.toList) (s.data.toList.take k) := by omega
    have hh2 : hgt (cnt 100 s.data.toList) (s.data.toList.take k) ≤ 16777216 := by omega
    clear hh
    by_cases hlt : k < s.size
    · have HTS := Lib.hid (take_snoc s k hlt)
      by_cases hc : s[k] = 102
      · have hb1 : ((s[k].toNat : Int) == 102) = true := by rw [hc]; rfl
        have HH : Hid (hgt (cnt 100 s.data.toList) (s.data.toList.take (k + 1)) = hgt (cnt 100 s.data.toList) (s.data.toList.take k)) := by unfold Hid; rw [HTS.out, hgt_snoc, if_pos hc]
        have HT : Hid (hts (cnt 100 s.data.toList) (s.data.toList.take (k + 1)) = hts (cnt 100 s.data.toList) (s.data.toList.take k) ++ [hgt (cnt 100 s.data.toList) (s.data.toList.take k)]) := by unfold Hid; rw [HTS.out, hts_snoc, if_pos hc]
        clear hc
        have hone : ∀ u ∈ [Value.int .i64 (hgt (cnt 100 s.data.toList) (s.data.toList.take k))], u.oneCell' = true := by intro u hu; simp at hu; subst hu; rfl
        have HO := hide hone
        clear hone
        go_wp2_with (at_builtin; refine wpList_append_N _ rfl (.tmp 21) (.tmp 23) _ rfl w.heap.size 3 i0 _ 1 8 Try.underlying64 hi0 hz0 hz1 hz2 rfl (by omega) (.slice A' N c') N _ rfl (hown.alloc _) (wr.heap.size + 1) (some ⟨wr.heap.size, 0, none⟩) 1 1 [Value.int .i64 (hgt (cnt 100 s.data.toList) (s.data.toList.take k))] rfl (reads_one _ _) (unhide HO) ?_ ?_ ?_ (N + 1) _ rfl (ints_snoc _ _).symm ?_; (unfold maxLen; omega); omega; (simp; omega); intro A2 c2 w3 ho3 hb3)
        go_roundw
        case rel => exact ⟨k + 1, N + 1, A2, c2, by omega, by omega, by go_num, rfl, by rw [HH.out], by unfold Hid; rw [HT.out, List.length_append, HN.out]; rfl, by rw [HT.out]; exact ho3, bel⟩
        case measure => simp [intOf]; omega
      · have hb1 : ((s[k].toNat : Int) == 102) = false := by
          rw [beq_eq_false_iff_ne]; intro h; apply hc; apply UInt8.toNat_inj.1; show _ = 102; omega
        have HH : Hid (hgt (cnt 100 s.data.toList) (s.data.toList.take (k + 1)) = hgt (cnt 100 s.data.toList) (s.data.toList.take k) - 1) := by unfold Hid; rw [HTS.out, hgt_snoc, if_neg hc]
        have HT : Hid (hts (cnt 100 s.data.toList) (s.data.toList.take (k + 1)) = hts (cnt 100 s.data.toList) (s.data.toList.take k)) := by unfold Hid; rw [HTS.out, hts_snoc, if_neg hc, List.append_nil]
        clear hc
        go_wp2
        go_roundw
        case rel => exact ⟨k + 1, N, A', c', by omega, by omega, by go_num, rfl, by rw [HH.out], by unfold Hid; rw [HT.out]; exact HN.out, by rw [HT.out]; exact hown, hb⟩
        case measure => simp [intOf]; omega
    · have hke : k = s.size := by omega
      have ht : s.data.toList.take k = s.data.toList := List.take_of_length_le (by rw [HLEN.out]; omega)
      rw [ht] at hown HN
      have HF := hide (fresh_ints (l := htsOf s.data.toList) HN.out hown hb)
      clear ht hown hh1 hh2
      subst hke
      go_wp2
      go_ret
      exact unhide HF
end Go.Proofs.Ytccjedongkokoaa
namespace Go.Proofs.Ytccjedongkokoaa
open Go.ChangeShapes Go.WideShapes Go.ChangeAt Go.RowKit
set_option linter.unusedVariables false
set_option maxRecDepth 10000
def areaL : List Int → List Int → Int
  | a :: l, b :: m => max (a - b) (b - a) + areaL l m
  | _, _ => 0
theorem areaL_take (a b : List Int) (k : Nat) (ha : k < a.length) (hb : k < b.length) : areaL (a.take (k + 1)) (b.take (k + 1)) = areaL (a.take k) (b.take k) + max (a[k] - b[k]) (b[k] - a[k]) := by
  induction k generalizing a b with
  | zero =>
    match a, b, ha, hb with
    | x :: l, y :: m, _, _ => simp [areaL]
  | succ k ih =>
    match a, b, ha, hb with
    | x :: l, y :: m, ha, hb =>
      simp only [List.take_succ_cons, areaL, List.getElem_cons_succ]
      rw [ih l m (by simpa using ha) (by simpa using hb)]; omega
theorem areaL_bd (a b : List Int) (M : Int) (hM : 0 ≤ M) (ha : ∀ x ∈ a, -M ≤ x ∧ x ≤ M) (hb : ∀ x ∈ b, -M ≤ x ∧ x ≤ M) : 0 ≤ areaL a b ∧ areaL a b ≤ (2 * M) * a.length := by
  induction a generalizing b with
  | nil => simp [areaL]
  | cons x l ih =>
    cases b with
    | nil =>
      simp only [areaL, List.length_cons]
      refine ⟨Int.le_refl _, Int.mul_nonneg (by omega) (by omega)⟩
    | cons y m =>
      have h1 := ih m (fun z hz => ha z (List.mem_cons_of_mem _ hz)) (fun z hz => hb z (List.mem_cons_of_mem _ hz))
      have h2 := ha x List.mem_cons_self
      have h3 := hb y List.mem_cons_self
      simp only [areaL, List.length_cons]
      have h4 : (2 * M) * ((l.length + 1 : Nat) : Int) = (2 * M) * (l.length : Int) + 2 * M := by
        rw [show ((l.length + 1 : Nat) : Int) = (l.length : Int) + 1 by omega, Int.mul_add, Int.mul_one]
      rw [h4]
      generalize (2 * M) * (l.length : Int) = q at *
      omega
theorem areaL_ge_take (a b : List Int) (k : Nat) : areaL (a.take k) (b.take k) ≤ areaL a b ∧ 0 ≤ areaL (a.take k) (b.take k) := by
  induction k generalizing a b with
  | zero =>
    have : ∀ a b : List Int, 0 ≤ areaL a b := by
      intro a
      induction a with
      | nil => intro b; simp [areaL]
      | cons x l ih =>
        intro b; cases b with
        | nil => simp [areaL]
        | cons y m => have := ih m; simp only [areaL]; omega
    simp only [List.take_zero, areaL]; exact ⟨this a b, Int.le_refl _⟩
  | succ k ih =>
    match a, b with
    | [], b => simp [areaL]
    | x :: l, [] => simp [areaL]
    | x :: l, y :: m => have := ih l m; simp only [List.take_succ_cons, areaL]; omega
def areaOf (s t : List UInt8) : Int := if sameFrame s t = true then areaL (htsOf s) (htsOf t) else -1
theorem areaOf_yes {s t : List UInt8} (h : sameFrame s t = true) : areaOf s t = areaL (htsOf s) (htsOf t) := by unfold areaOf; rw [if_pos h]
theorem areaOf_no {s t : List UInt8} (h : sameFrame s t = false) : areaOf s t = -1 := by unfold areaOf; rw [if_neg (by rw [h]; simp)]
theorem hts_strip {l : List UInt8} (h : isStrip l = true) : (htsOf l).length ≤ 8 ∧ ∀ x ∈ htsOf l, -16 ≤ x ∧ x ≤ 16 := by
  have h1 := strip_len h
  refine ⟨by rw [htsOf_len]; omega, fun x hx => ?_⟩
  have := hts_bd _ _ x hx
  omega
theorem areaOf_bd (s t : List UInt8) : -1 ≤ areaOf s t ∧ areaOf s t ≤ 256 := by
  cases h : sameFrame s t
  · rw [areaOf_no h]; omega
  · rw [areaOf_yes h]
    obtain ⟨h1, h2, _, _⟩ := sf_yes h
    obtain ⟨a1, a2⟩ := hts_strip h1
    obtain ⟨b1, b2⟩ := hts_strip h2
    have := areaL_bd (htsOf s) (htsOf t) 16 (by omega) a2 b2
    omega
theorem ints_at {w : World} {B : Nat} {A : Option Addr} {n k : Nat} {l : List Int} (h : Reads w B 1 A n (ints l)) (hk : k < n) : ∃ (hk' : k < l.length) (ad : Addr), A = some ad ∧ ad.block < B ∧ w.cell? (ad.add k) = some (.int .i64 l[k]) := by
  obtain ⟨ad, u, rfl, hb, hx, hc⟩ := h.at_ hk
  have hl : k < l.length := by
    have := h.1
    simp [ints] at this
    omega
  refine ⟨hl, ad, rfl, hb, ?_⟩
  rw [hc]
  unfold ints at hx
  rw [List.getElem?_map, List.getElem?_eq_getElem hl] at hx
  simpa using hx.symm
set_option maxHeartbeats 1600000 in
theorem i_AreaBetween (s t : ByteArray) (w : World) (hs : s.size ≤ 16777216) (ht : t.size ≤ 16777216) :
    Calls Try.prog 69 #[.string s, .string t] w fun e w' => e = .returned (.int .i64 (areaOf s.data.toList t.data.toList)) ∧ Below w.heap.size w w' := by
  cases hf : sameFrame s.data.toList t.data.toList
  · have HP := Lib.hid (areaOf_no hf)
    go_enter Try.func69, Try.ntmps69
    go_wp2_with (first | (go_at_call 108; refine (i_SameFrame _ _ _ hs ht).mono ?_; rw [hf]; rintro e w' ⟨rfl, rfl⟩))
    go_ret
    exact ⟨ret_int HP.out.symm, bel⟩
  · have HP := Lib.hid (areaOf_yes hf)
    obtain ⟨h1, h2, _, hc⟩ := sf_yes hf
    obtain ⟨la, ba⟩ := hts_strip h1
    obtain ⟨lb, bb⟩ := hts_strip h2
    have hab : (htsOf s.data.toList).length = (htsOf t.data.toList).length := by rw [htsOf_len, htsOf_len, hc]
    have hsum := (areaL_bd (htsOf s.data.toList) (htsOf t.data.toList) 16 (by omega) ba bb).2
    clear hc
    generalize ea : htsOf s.data.toList = a at *
    generalize eb : htsOf t.data.toList = b at *
    generalize en : b.length = N at *
    have HA := Lib.hid hab
    have HB := Lib.hid en
    have HEA := Lib.hid ea
    have HEB := Lib.hid eb
    have hN : N ≤ 8 := lb
    have hsum' : areaL a b ≤ 256 := by omega
    have BA := hide ba
    have BB := hide bb
    clear hab en ea eb la lb ba bb hsum
    go_enter Try.func69, Try.ntmps69
    go_wp2_with (first | (go_at_call 108; refine (i_SameFrame _ _ _ hs ht).mono ?_; rw [hf]; rintro e w' ⟨rfl, rfl⟩))
    refine (i_HeightsOf t _ ht h2).mono ?_
    rw [HEB.out]
    rintro e w1 ⟨A1, c1, rfl, ho1, hb1⟩
    rw [HB.out] at ho1 ⊢
    go_wp2_with fail
    refine (i_HeightsOf s _ hs h1).mono ?_
    rw [HEA.out]
    rintro e w2 ⟨A2, c2, rfl, ho2, hb2⟩
    rw [HA.out] at ho2 ⊢
    have hR1 := (Reads.of_own ho1).below hb2
    have hR2 := Reads.of_own ho2
    have hz1 := hb1.size
    have hbw : Below w.heap.size w w2 := bel
    have hz2 := hb2.size
    clear ho1 ho2
    go_wp2
    go_loopw [5, 18] (fun q i wr => ∃ k m : Nat, k ≤ N ∧ i = .int .i64 k ∧ q = .int .i64 (areaL (a.take k) (b.take k)) ∧ wr = w2.drewN m) (fun _ i _ => N - (intOf i).toNat)
    case atStart => exact ⟨0, 0, Nat.zero_le _, rfl, by simp [areaL], rfl⟩
    case round =>
      obtain ⟨k, m, hk, rfl, rfl, rfl⟩ := hrel
      by_cases hlt : k < N
      · obtain ⟨hk1, ad1, rfl, hab1, hc1⟩ := ints_at hR1 hlt
        obtain ⟨hk2, ad2, rfl, hab2, hc2⟩ := ints_at hR2 hlt
        have hka : k < a.length := by have := HA.out; omega
        have hkb : k < b.length := by have := HB.out; omega
        have HS := Lib.hid (areaL_take a b k hka hkb)
        have ba1 := unhide BA a[k] (List.getElem_mem hka)
        have bb1 := unhide BB b[k] (List.getElem_mem hkb)
        have hg1 := areaL_ge_take a b k
        obtain ⟨hg1a, hg1b⟩ := hg1
        obtain ⟨ba1a, ba1b⟩ := ba1
        obtain ⟨bb1a, bb1b⟩ := bb1
        generalize ex : a[k] = x at *
        generalize ey : b[k] = y at *
        have hw1 : IntKind.i64.wrap (x - y) = x - y := IntWalk.i64_in _ (by omega)
        have hw2 : IntKind.i64.wrap (y - x) = y - x := IntWalk.i64_in _ (by omega)
        have hw3 : IntKind.i64.wrap (areaL (a.take k) (b.take k) + max (x - y) (y - x)) = areaL (a.take k) (b.take k) + max (x - y) (y - x) := IntWalk.i64_in _ (by omega)
        go_wp2
        go_quiet (fail)
        go_wp2
        go_roundw
        case rel => exact ⟨k + 1, _, by omega, by go_num, by rw [HS.out], by first | rfl | exact World.drewN_drewN _ _ _⟩
        case measure => simp [intOf]; omega
      · have hke : k = N := by omega
        have ta : a.take k = a := List.take_of_length_le (by have := HA.out; omega)
        have tb : b.take k = b := List.take_of_length_le (by have := HB.out; omega)
        rw [ta, tb]
        clear ta tb
        subst hke
        go_wp2
        go_ret
        exact ⟨ret_int HP.out.symm, bel⟩
end Go.Proofs.Ytccjedongkokoaa
namespace Go.Proofs.Ytccjedongkokoaa
open Go.ChangeShapes Go.WideShapes Go.ChangeAt Go.RowKit
set_option linter.unusedVariables false
set_option maxRecDepth 10000
def alike (d f d2 f2 : Int) (ss ts : List ByteArray) : Bool := cardOk d f ss && (cardOk d2 f2 ts && ((d == d2) && ((f == f2) && ((ss.length : Int) == (ts.length : Int)))))
def costL : List ByteArray → List ByteArray → Int
  | a :: l, b :: m => areaOf a.data.toList b.data.toList + costL l m
  | _, _ => 0
theorem costL_take (a b : List ByteArray) (k : Nat) (ha : k < a.length) (hb : k < b.length) : costL (a.take (k + 1)) (b.take (k + 1)) = costL (a.take k) (b.take k) + areaOf a[k].data.toList b[k].data.toList := by
  induction k generalizing a b with
  | zero =>
    match a, b, ha, hb with
    | x :: l, y :: m, _, _ => simp [costL]
  | succ k ih =>
    match a, b, ha, hb with
    | x :: l, y :: m, ha, hb =>
      simp only [List.take_succ_cons, costL, List.getElem_cons_succ]
      rw [ih l m (by simpa using ha) (by simpa using hb)]; omega
theorem costL_bd (a b : List ByteArray) : -(a.length : Int) ≤ costL a b ∧ costL a b ≤ 256 * a.length := by
  induction a generalizing b with
  | nil => simp [costL]
  | cons x l ih =>
    cases b with
    | nil => simp only [costL, List.length_cons]; omega
    | cons y m =>
      have h1 := ih m
      have h2 := areaOf_bd x.data.toList y.data.toList
      simp only [costL, List.length_cons]
      omega
def costOf (d f d2 f2 : Int) (ss ts : List ByteArray) : Int := if alike d f d2 f2 ss ts = true then costL ss ts else -1
theorem costOf_bd (d f d2 f2 : Int) (ss ts : List ByteArray) (h : ss.length ≤ 16777216) : -16777216 ≤ costOf d f d2 f2 ss ts ∧ costOf d f d2 f2 ss ts ≤ 4294967296 := by
  unfold costOf; split
  · have := costL_bd ss ts; omega
  · omega
def sideOf (d f d2 f2 : Int) (ss ts : List ByteArray) : Int :=
  if costOf d f d2 f2 ss ts < 0 then -1 else min (costOf d f d2 f2 ss ts) (costOf d f (mirrorRes d2 f2 ts).1 (mirrorRes d2 f2 ts).2.1 ss (mirrorRes d2 f2 ts).2.2)
theorem mirror_ok (d f : Int) (ss : List ByteArray) (m : Nat) (hl : ss.length ≤ m) (hs : ∀ x ∈ ss, x.size ≤ 16777216) : (mirrorRes d f ss).2.2.length ≤ m ∧ ∀ x ∈ (mirrorRes d f ss).2.2, x.size ≤ 16777216 := by
  unfold mirrorRes; split
  · exact ⟨by show ss.reverse.length ≤ m; rw [List.length_reverse]; exact hl, fun x hx => hs x (by simpa using hx)⟩
  · exact ⟨by simp, fun x hx => by simp at hx⟩
set_option maxHeartbeats 1600000 in
theorem i_areAlike (d f d2 f2 : Int) (B : Nat) (A A2 : Option Addr) (n c n2 c2 : Nat) (ss ts : List ByteArray) (w : World) (hS : Strs w B A n ss) (hT : Strs w B A2 n2 ts) (hB : B ≤ w.heap.size) :
    Calls Try.prog 66 #[.agg #[.int .i64 d, .int .i64 f, .slice A n c], .agg #[.int .i64 d2, .int .i64 f2, .slice A2 n2 c2]] w fun e w' => e = .returned (.bool (alike d f d2 f2 ss ts)) ∧ Below w.heap.size w w' := by
  have hn := hS.nb
  have hn2 := hT.nb
  have hl := hS.len
  have hl2 := hT.len
  have hS2 := (hS.alloc hB (.cells #[.int .i64 d, .int .i64 f, .slice A n c] 26)).alloc (by simp; omega) (.cells #[.int .i64 d2, .int .i64 f2, .slice A2 n2 c2] 26)
  have hT2 := (hT.alloc hB (.cells #[.int .i64 d, .int .i64 f, .slice A n c] 26)).alloc (by simp; omega) (.cells #[.int .i64 d2, .int .i64 f2, .slice A2 n2 c2] 26)
  have HL := Lib.hid hl
  have HL2 := Lib.hid hl2
  clear hl hl2
  cases h1 : cardOk d f ss
  · have HP := Lib.hid (show alike d f d2 f2 ss ts = false by unfold alike; rw [h1]; rfl)
    go_enter Try.func66, Try.ntmps66
    go_wp2_with (first | (go_at_call_of 47 (Value.agg #[.int .i64 d, .int .i64 f, .slice A n c]); refine (i_CardOk _ _ _ _ _ ss _ (hS2.more (by simp; omega))).mono ?_; rw [h1]; rintro e w1 ⟨rfl, hb1⟩; obtain ⟨hcb, hfb⟩ := bcell hb1; have hz_w1_0 : w.heap.size < w1.heap.size := (by have hzz := hb1.size; (try simp at hzz); omega); have hy_w1_0 := Nat.le_of_lt hz_w1_0; have hz_w1_1 : w.heap.size + 1 < w1.heap.size := (by have hzz := hb1.size; (try simp at hzz); omega); have hy_w1_1 := Nat.le_of_lt hz_w1_1; have hT3 := hT2.below (hb1.mono (by simp; omega))))
    go_ret
    exact ⟨ret_bool HP.out.symm, bel⟩
  · cases h2 : cardOk d2 f2 ts
    · have HP := Lib.hid (show alike d f d2 f2 ss ts = false by unfold alike; rw [h1, h2]; rfl)
      go_enter Try.func66, Try.ntmps66
      go_wp2_with (first | (go_at_call_of 47 (Value.agg #[.int .i64 d, .int .i64 f, .slice A n c]); refine (i_CardOk _ _ _ _ _ ss _ (hS2.more (by simp; omega))).mono ?_; rw [h1]; rintro e w1 ⟨rfl, hb1⟩; obtain ⟨hcb, hfb⟩ := bcell hb1; have hz_w1_0 : w.heap.size < w1.heap.size := (by have hzz := hb1.size; (try simp at hzz); omega); have hy_w1_0 := Nat.le_of_lt hz_w1_0; have hz_w1_1 : w.heap.size + 1 < w1.heap.size := (by have hzz := hb1.size; (try simp at hzz); omega); have hy_w1_1 := Nat.le_of_lt hz_w1_1; have hT3 := hT2.below (hb1.mono (by simp; omega))) | (go_at_call_of 47 (Value.agg #[.int .i64 d2, .int .i64 f2, .slice A2 n2 c2]); refine (i_CardOk _ _ _ _ _ ts _ (hT3.more (by omega))).mono ?_; rw [h2]; rintro e w2 ⟨rfl, hb2⟩; obtain ⟨hcb2, hfb2⟩ := bcell hb2; (have hzw : w1.heap.size ≤ w2.heap.size := hb2.size); have hzx0 : w.heap.size < w2.heap.size := (by omega); have hzx1 : w.heap.size + 1 < w2.heap.size := (by omega)))
      go_ret
      exact ⟨ret_bool HP.out.symm, bel⟩
    · cases h3 : (d == d2)
      · have HP := Lib.hid (show alike d f d2 f2 ss ts = false by unfold alike; rw [h1, h2, h3]; rfl)
        go_enter Try.func66, Try.ntmps66
        go_wp2_with (first | (go_at_call_of 47 (Value.agg #[.int .i64 d, .int .i64 f, .slice A n c]); refine (i_CardOk _ _ _ _ _ ss _ (hS2.more (by simp; omega))).mono ?_; rw [h1]; rintro e w1 ⟨rfl, hb1⟩; obtain ⟨hcb, hfb⟩ := bcell hb1; have hz_w1_0 : w.heap.size < w1.heap.size := (by have hzz := hb1.size; (try simp at hzz); omega); have hy_w1_0 := Nat.le_of_lt hz_w1_0; have hz_w1_1 : w.heap.size + 1 < w1.heap.size := (by have hzz := hb1.size; (try simp at hzz); omega); have hy_w1_1 := Nat.le_of_lt hz_w1_1; have hT3 := hT2.below (hb1.mono (by simp; omega))) | (go_at_call_of 47 (Value.agg #[.int .i64 d2, .int .i64 f2, .slice A2 n2 c2]); refine (i_CardOk _ _ _ _ _ ts _ (hT3.more (by omega))).mono ?_; rw [h2]; rintro e w2 ⟨rfl, hb2⟩; obtain ⟨hcb2, hfb2⟩ := bcell hb2; (have hzw : w1.heap.size ≤ w2.heap.size := hb2.size); have hzx0 : w.heap.size < w2.heap.size := (by omega); have hzx1 : w.heap.size + 1 < w2.heap.size := (by omega)))
        go_ret
        exact ⟨ret_bool HP.out.symm, bel⟩
      · cases h4 : (f == f2)
        · have HP := Lib.hid (show alike d f d2 f2 ss ts = false by unfold alike; rw [h1, h2, h3, h4]; rfl)
          go_enter Try.func66, Try.ntmps66
          go_wp2_with (first | (go_at_call_of 47 (Value.agg #[.int .i64 d, .int .i64 f, .slice A n c]); refine (i_CardOk _ _ _ _ _ ss _ (hS2.more (by simp; omega))).mono ?_; rw [h1]; rintro e w1 ⟨rfl, hb1⟩; obtain ⟨hcb, hfb⟩ := bcell hb1; have hz_w1_0 : w.heap.size < w1.heap.size := (by have hzz := hb1.size; (try simp at hzz); omega); have hy_w1_0 := Nat.le_of_lt hz_w1_0; have hz_w1_1 : w.heap.size + 1 < w1.heap.size := (by have hzz := hb1.size; (try simp at hzz); omega); have hy_w1_1 := Nat.le_of_lt hz_w1_1; have hT3 := hT2.below (hb1.mono (by simp; omega))) | (go_at_call_of 47 (Value.agg #[.int .i64 d2, .int .i64 f2, .slice A2 n2 c2]); refine (i_CardOk _ _ _ _ _ ts _ (hT3.more (by omega))).mono ?_; rw [h2]; rintro e w2 ⟨rfl, hb2⟩; obtain ⟨hcb2, hfb2⟩ := bcell hb2; (have hzw : w1.heap.size ≤ w2.heap.size := hb2.size); have hzx0 : w.heap.size < w2.heap.size := (by omega); have hzx1 : w.heap.size + 1 < w2.heap.size := (by omega)))
          go_ret
          exact ⟨ret_bool HP.out.symm, bel⟩
        · cases h5 : ((n : Int) == (n2 : Int))
          · have HP := Lib.hid (show alike d f d2 f2 ss ts = false by unfold alike; rw [h1, h2, h3, h4, HL.out, HL2.out, h5]; rfl)
            go_enter Try.func66, Try.ntmps66
            go_wp2_with (first | (go_at_call_of 47 (Value.agg #[.int .i64 d, .int .i64 f, .slice A n c]); refine (i_CardOk _ _ _ _ _ ss _ (hS2.more (by simp; omega))).mono ?_; rw [h1]; rintro e w1 ⟨rfl, hb1⟩; obtain ⟨hcb, hfb⟩ := bcell hb1; have hz_w1_0 : w.heap.size < w1.heap.size := (by have hzz := hb1.size; (try simp at hzz); omega); have hy_w1_0 := Nat.le_of_lt hz_w1_0; have hz_w1_1 : w.heap.size + 1 < w1.heap.size := (by have hzz := hb1.size; (try simp at hzz); omega); have hy_w1_1 := Nat.le_of_lt hz_w1_1; have hT3 := hT2.below (hb1.mono (by simp; omega))) | (go_at_call_of 47 (Value.agg #[.int .i64 d2, .int .i64 f2, .slice A2 n2 c2]); refine (i_CardOk _ _ _ _ _ ts _ (hT3.more (by omega))).mono ?_; rw [h2]; rintro e w2 ⟨rfl, hb2⟩; obtain ⟨hcb2, hfb2⟩ := bcell hb2; (have hzw : w1.heap.size ≤ w2.heap.size := hb2.size); have hzx0 : w.heap.size < w2.heap.size := (by omega); have hzx1 : w.heap.size + 1 < w2.heap.size := (by omega)))
            go_ret
            exact ⟨ret_bool HP.out.symm, bel⟩
          · have HP := Lib.hid (show alike d f d2 f2 ss ts = true by unfold alike; rw [h1, h2, h3, h4, HL.out, HL2.out, h5]; rfl)
            go_enter Try.func66, Try.ntmps66
            go_wp2_with (first | (go_at_call_of 47 (Value.agg #[.int .i64 d, .int .i64 f, .slice A n c]); refine (i_CardOk _ _ _ _ _ ss _ (hS2.more (by simp; omega))).mono ?_; rw [h1]; rintro e w1 ⟨rfl, hb1⟩; obtain ⟨hcb, hfb⟩ := bcell hb1; have hz_w1_0 : w.heap.size < w1.heap.size := (by have hzz := hb1.size; (try simp at hzz); omega); have hy_w1_0 := Nat.le_of_lt hz_w1_0; have hz_w1_1 : w.heap.size + 1 < w1.heap.size := (by have hzz := hb1.size; (try simp at hzz); omega); have hy_w1_1 := Nat.le_of_lt hz_w1_1; have hT3 := hT2.below (hb1.mono (by simp; omega))) | (go_at_call_of 47 (Value.agg #[.int .i64 d2, .int .i64 f2, .slice A2 n2 c2]); refine (i_CardOk _ _ _ _ _ ts _ (hT3.more (by omega))).mono ?_; rw [h2]; rintro e w2 ⟨rfl, hb2⟩; obtain ⟨hcb2, hfb2⟩ := bcell hb2; (have hzw : w1.heap.size ≤ w2.heap.size := hb2.size); have hzx0 : w.heap.size < w2.heap.size := (by omega); have hzx1 : w.heap.size + 1 < w2.heap.size := (by omega)))
            go_ret
            exact ⟨ret_bool HP.out.symm, bel⟩
set_option maxHeartbeats 1600000 in
theorem s_l08Same (d f d2 f2 : Int) (B : Nat) (A A2 : Option Addr) (n c n2 c2 : Nat) (ss ts : List ByteArray) (w : World) (hS : Strs w B A n ss) (hT : Strs w B A2 n2 ts) (hB : B ≤ w.heap.size) :
    Calls Try.prog 106 #[.agg #[.int .i64 d, .int .i64 f, .slice A n c], .agg #[.int .i64 d2, .int .i64 f2, .slice A2 n2 c2]] w fun e w' => e = .returned (.bool (alike d f d2 f2 ss ts)) ∧ Below w.heap.size w w' := by
  have hn := hS.nb
  have hn2 := hT.nb
  have hl := hS.len
  have hl2 := hT.len
  have hS2 := (hS.alloc hB (.cells #[.int .i64 d, .int .i64 f, .slice A n c] 26)).alloc (by simp; omega) (.cells #[.int .i64 d2, .int .i64 f2, .slice A2 n2 c2] 26)
  have hT2 := (hT.alloc hB (.cells #[.int .i64 d, .int .i64 f, .slice A n c] 26)).alloc (by simp; omega) (.cells #[.int .i64 d2, .int .i64 f2, .slice A2 n2 c2] 26)
  have HL := Lib.hid hl
  have HL2 := Lib.hid hl2
  clear hl hl2
  cases h1 : cardOk d f ss
  · have HP := Lib.hid (show alike d f d2 f2 ss ts = false by unfold alike; rw [h1]; rfl)
    go_enter Try.func106, Try.ntmps106
    go_wp2_with (first | (go_at_call_of 51 (Value.agg #[.int .i64 d, .int .i64 f, .slice A n c]); refine (s_CardOk _ _ _ _ _ ss _ (hS2.more (by simp; omega))).mono ?_; rw [h1]; rintro e w1 ⟨rfl, hb1⟩; obtain ⟨hcb, hfb⟩ := bcell hb1; have hz_w1_0 : w.heap.size < w1.heap.size := (by have hzz := hb1.size; (try simp at hzz); omega); have hy_w1_0 := Nat.le_of_lt hz_w1_0; have hz_w1_1 : w.heap.size + 1 < w1.heap.size := (by have hzz := hb1.size; (try simp at hzz); omega); have hy_w1_1 := Nat.le_of_lt hz_w1_1; have hT3 := hT2.below (hb1.mono (by simp; omega))))
    go_ret
    exact ⟨ret_bool HP.out.symm, bel⟩
  · cases h2 : cardOk d2 f2 ts
    · have HP := Lib.hid (show alike d f d2 f2 ss ts = false by unfold alike; rw [h1, h2]; rfl)
      go_enter Try.func106, Try.ntmps106
      go_wp2_with (first | (go_at_call_of 51 (Value.agg #[.int .i64 d, .int .i64 f, .slice A n c]); refine (s_CardOk _ _ _ _ _ ss _ (hS2.more (by simp; omega))).mono ?_; rw [h1]; rintro e w1 ⟨rfl, hb1⟩; obtain ⟨hcb, hfb⟩ := bcell hb1; have hz_w1_0 : w.heap.size < w1.heap.size := (by have hzz := hb1.size; (try simp at hzz); omega); have hy_w1_0 := Nat.le_of_lt hz_w1_0; have hz_w1_1 : w.heap.size + 1 < w1.heap.size := (by have hzz := hb1.size; (try simp at hzz); omega); have hy_w1_1 := Nat.le_of_lt hz_w1_1; have hT3 := hT2.below (hb1.mono (by simp; omega))) | (go_at_call_of 51 (Value.agg #[.int .i64 d2, .int .i64 f2, .slice A2 n2 c2]); refine (s_CardOk _ _ _ _ _ ts _ (hT3.more (by omega))).mono ?_; rw [h2]; rintro e w2 ⟨rfl, hb2⟩; obtain ⟨hcb2, hfb2⟩ := bcell hb2; (have hzw : w1.heap.size ≤ w2.heap.size := hb2.size); have hzx0 : w.heap.size < w2.heap.size := (by omega); have hzx1 : w.heap.size + 1 < w2.heap.size := (by omega)))
      go_ret
      exact ⟨ret_bool HP.out.symm, bel⟩
    · cases h3 : (d == d2)
      · have HP := Lib.hid (show alike d f d2 f2 ss ts = false by unfold alike; rw [h1, h2, h3]; rfl)
        go_enter Try.func106, Try.ntmps106
        go_wp2_with (first | (go_at_call_of 51 (Value.agg #[.int .i64 d, .int .i64 f, .slice A n c]); refine (s_CardOk _ _ _ _ _ ss _ (hS2.more (by simp; omega))).mono ?_; rw [h1]; rintro e w1 ⟨rfl, hb1⟩; obtain ⟨hcb, hfb⟩ := bcell hb1; have hz_w1_0 : w.heap.size < w1.heap.size := (by have hzz := hb1.size; (try simp at hzz); omega); have hy_w1_0 := Nat.le_of_lt hz_w1_0; have hz_w1_1 : w.heap.size + 1 < w1.heap.size := (by have hzz := hb1.size; (try simp at hzz); omega); have hy_w1_1 := Nat.le_of_lt hz_w1_1; have hT3 := hT2.below (hb1.mono (by simp; omega))) | (go_at_call_of 51 (Value.agg #[.int .i64 d2, .int .i64 f2, .slice A2 n2 c2]); refine (s_CardOk _ _ _ _ _ ts _ (hT3.more (by omega))).mono ?_; rw [h2]; rintro e w2 ⟨rfl, hb2⟩; obtain ⟨hcb2, hfb2⟩ := bcell hb2; (have hzw : w1.heap.size ≤ w2.heap.size := hb2.size); have hzx0 : w.heap.size < w2.heap.size := (by omega); have hzx1 : w.heap.size + 1 < w2.heap.size := (by omega)))
        go_ret
        exact ⟨ret_bool HP.out.symm, bel⟩
      · cases h4 : (f == f2)
        · have HP := Lib.hid (show alike d f d2 f2 ss ts = false by unfold alike; rw [h1, h2, h3, h4]; rfl)
          go_enter Try.func106, Try.ntmps106
          go_wp2_with (first | (go_at_call_of 51 (Value.agg #[.int .i64 d, .int .i64 f, .slice A n c]); refine (s_CardOk _ _ _ _ _ ss _ (hS2.more (by simp; omega))).mono ?_; rw [h1]; rintro e w1 ⟨rfl, hb1⟩; obtain ⟨hcb, hfb⟩ := bcell hb1; have hz_w1_0 : w.heap.size < w1.heap.size := (by have hzz := hb1.size; (try simp at hzz); omega); have hy_w1_0 := Nat.le_of_lt hz_w1_0; have hz_w1_1 : w.heap.size + 1 < w1.heap.size := (by have hzz := hb1.size; (try simp at hzz); omega); have hy_w1_1 := Nat.le_of_lt hz_w1_1; have hT3 := hT2.below (hb1.mono (by simp; omega))) | (go_at_call_of 51 (Value.agg #[.int .i64 d2, .int .i64 f2, .slice A2 n2 c2]); refine (s_CardOk _ _ _ _ _ ts _ (hT3.more (by omega))).mono ?_; rw [h2]; rintro e w2 ⟨rfl, hb2⟩; obtain ⟨hcb2, hfb2⟩ := bcell hb2; (have hzw : w1.heap.size ≤ w2.heap.size := hb2.size); have hzx0 : w.heap.size < w2.heap.size := (by omega); have hzx1 : w.heap.size + 1 < w2.heap.size := (by omega)))
          go_ret
          exact ⟨ret_bool HP.out.symm, bel⟩
        · cases h5 : ((n : Int) == (n2 : Int))
          · have HP := Lib.hid (show alike d f d2 f2 ss ts = false by unfold alike; rw [h1, h2, h3, h4, HL.out, HL2.out, h5]; rfl)
            go_enter Try.func106, Try.ntmps106
            go_wp2_with (first | (go_at_call_of 51 (Value.agg #[.int .i64 d, .int .i64 f, .slice A n c]); refine (s_CardOk _ _ _ _ _ ss _ (hS2.more (by simp; omega))).mono ?_; rw [h1]; rintro e w1 ⟨rfl, hb1⟩; obtain ⟨hcb, hfb⟩ := bcell hb1; have hz_w1_0 : w.heap.size < w1.heap.size := (by have hzz := hb1.size; (try simp at hzz); omega); have hy_w1_0 := Nat.le_of_lt hz_w1_0; have hz_w1_1 : w.heap.size + 1 < w1.heap.size := (by have hzz := hb1.size; (try simp at hzz); omega); have hy_w1_1 := Nat.le_of_lt hz_w1_1; have hT3 := hT2.below (hb1.mono (by simp; omega))) | (go_at_call_of 51 (Value.agg #[.int .i64 d2, .int .i64 f2, .slice A2 n2 c2]); refine (s_CardOk _ _ _ _ _ ts _ (hT3.more (by omega))).mono ?_; rw [h2]; rintro e w2 ⟨rfl, hb2⟩; obtain ⟨hcb2, hfb2⟩ := bcell hb2; (have hzw : w1.heap.size ≤ w2.heap.size := hb2.size); have hzx0 : w.heap.size < w2.heap.size := (by omega); have hzx1 : w.heap.size + 1 < w2.heap.size := (by omega)))
            go_ret
            exact ⟨ret_bool HP.out.symm, bel⟩
          · have HP := Lib.hid (show alike d f d2 f2 ss ts = true by unfold alike; rw [h1, h2, h3, h4, HL.out, HL2.out, h5]; rfl)
            go_enter Try.func106, Try.ntmps106
            go_wp2_with (first | (go_at_call_of 51 (Value.agg #[.int .i64 d, .int .i64 f, .slice A n c]); refine (s_CardOk _ _ _ _ _ ss _ (hS2.more (by simp; omega))).mono ?_; rw [h1]; rintro e w1 ⟨rfl, hb1⟩; obtain ⟨hcb, hfb⟩ := bcell hb1; have hz_w1_0 : w.heap.size < w1.heap.size := (by have hzz := hb1.size; (try simp at hzz); omega); have hy_w1_0 := Nat.le_of_lt hz_w1_0; have hz_w1_1 : w.heap.size + 1 < w1.heap.size := (by have hzz := hb1.size; (try simp at hzz); omega); have hy_w1_1 := Nat.le_of_lt hz_w1_1; have hT3 := hT2.below (hb1.mono (by simp; omega))) | (go_at_call_of 51 (Value.agg #[.int .i64 d2, .int .i64 f2, .slice A2 n2 c2]); refine (s_CardOk _ _ _ _ _ ts _ (hT3.more (by omega))).mono ?_; rw [h2]; rintro e w2 ⟨rfl, hb2⟩; obtain ⟨hcb2, hfb2⟩ := bcell hb2; (have hzw : w1.heap.size ≤ w2.heap.size := hb2.size); have hzx0 : w.heap.size < w2.heap.size := (by omega); have hzx1 : w.heap.size + 1 < w2.heap.size := (by omega)))
            go_ret
            exact ⟨ret_bool HP.out.symm, bel⟩
theorem alike_len {d f d2 f2 : Int} {ss ts : List ByteArray} (h : alike d f d2 f2 ss ts = true) : ss.length = ts.length := by
  unfold alike at h
  simp only [Bool.and_eq_true, beq_iff_eq] at h
  omega
theorem cost_no {d f d2 f2 : Int} {ss ts : List ByteArray} (h : alike d f d2 f2 ss ts = false) : costOf d f d2 f2 ss ts = -1 := by unfold costOf; rw [if_neg (by rw [h]; simp)]
theorem cost_yes {d f d2 f2 : Int} {ss ts : List ByteArray} (h : alike d f d2 f2 ss ts = true) : costOf d f d2 f2 ss ts = costL ss ts := by unfold costOf; rw [if_pos h]
set_option maxHeartbeats 1600000 in
theorem i_RepairCost (d f d2 f2 : Int) (B : Nat) (A A2 : Option Addr) (n c n2 c2 : Nat) (ss ts : List ByteArray) (w : World) (hS : Strs w B A n ss) (hT : Strs w B A2 n2 ts) (hB : B ≤ w.heap.size) :
    Calls Try.prog 65 #[.agg #[.int .i64 d, .int .i64 f, .slice A n c], .agg #[.int .i64 d2, .int .i64 f2, .slice A2 n2 c2]] w fun e w' => e = .returned (.int .i64 (costOf d f d2 f2 ss ts)) ∧ Below w.heap.size w w' := by
  have hn := hS.nb
  have hn2 := hT.nb
  have hl := hS.len
  have hl2 := hT.len
  have hS2 := (hS.alloc hB (.cells #[.int .i64 d, .int .i64 f, .slice A n c] 26)).alloc (by simp; omega) (.cells #[.int .i64 d2, .int .i64 f2, .slice A2 n2 c2] 26)
  have hT2 := (hT.alloc hB (.cells #[.int .i64 d, .int .i64 f, .slice A n c] 26)).alloc (by simp; omega) (.cells #[.int .i64 d2, .int .i64 f2, .slice A2 n2 c2] 26)
  cases ha : alike d f d2 f2 ss ts
  · have HP := Lib.hid (cost_no ha)
    clear hl hl2
    go_enter Try.func65, Try.ntmps65
    go_wp2_with (first | (go_at_call 66; refine (i_areAlike _ _ _ _ B _ _ _ _ _ _ ss ts _ hS2 hT2 (by simp; omega)).mono ?_; rw [ha]; rintro e w1 ⟨rfl, hb1⟩; obtain ⟨hcb, hfb⟩ := bcell hb1; have hz_w1_0 : w.heap.size < w1.heap.size := (by have hzz := hb1.size; (try simp at hzz); omega); have hy_w1_0 := Nat.le_of_lt hz_w1_0; have hz_w1_1 : w.heap.size + 1 < w1.heap.size := (by have hzz := hb1.size; (try simp at hzz); omega); have hy_w1_1 := Nat.le_of_lt hz_w1_1))
    go_ret
    exact ⟨ret_int HP.out.symm, bel⟩
  · have HP := Lib.hid (cost_yes ha)
    have hnn : n = n2 := by rw [← hl, ← hl2]; exact alike_len ha
    subst hnn
    have HL := Lib.hid hl
    have HL2 := Lib.hid hl2
    clear hl hl2
    go_enter Try.func65, Try.ntmps65
    go_wp2_with (first | (go_at_call 66; refine (i_areAlike _ _ _ _ B _ _ _ _ _ _ ss ts _ hS2 hT2 (by simp; omega)).mono ?_; rw [ha]; rintro e w1 ⟨rfl, hb1⟩; obtain ⟨hcb, hfb⟩ := bcell hb1; have hz_w1_0 : w.heap.size < w1.heap.size := (by have hzz := hb1.size; (try simp at hzz); omega); have hy_w1_0 := Nat.le_of_lt hz_w1_0; have hz_w1_1 : w.heap.size + 1 < w1.heap.size := (by have hzz := hb1.size; (try simp at hzz); omega); have hy_w1_1 := Nat.le_of_lt hz_w1_1))
    have hS3 := hS2.below (hb1.mono (by simp; omega))
    have hT3 := hT2.below (hb1.mono (by simp; omega))
    have hbw : Below w.heap.size w w1 := bel
    have hk1 : w1.heap[w.heap.size]? = some (.cells #[.int .i64 d, .int .i64 f, .slice A n c] 26) := blk_below (box_first w (.cells #[.int .i64 d, .int .i64 f, .slice A n c] 26) (.cells #[.int .i64 d2, .int .i64 f2, .slice A2 n c2] 26)) hb1 (by first | (simp; done) | (simp; omega))
    have hk2 : w1.heap[w.heap.size + 1]? = some (.cells #[.int .i64 d2, .int .i64 f2, .slice A2 n c2] 26) := blk_below (box_second w (.cells #[.int .i64 d, .int .i64 f, .slice A n c] 26) (.cells #[.int .i64 d2, .int .i64 f2, .slice A2 n c2] 26)) hb1 (by first | (simp; done) | (simp; omega))
    have hz1 : w.heap.size + 1 < w1.heap.size := by omega
    go_loopw [5, 15] (fun q i wr => ∃ k : Nat, k ≤ n ∧ i = .int .i64 k ∧ q = .int .i64 (costL (ss.take k) (ts.take k)) ∧ Below w1.heap.size w1 wr) (fun _ i _ => n - (intOf i).toNat)
    case atStart => exact ⟨0, Nat.zero_le _, rfl, by simp [costL], Below.refl _ _⟩
    case round =>
      obtain ⟨k, hk, rfl, rfl, hb⟩ := hrel
      have hzr := hb.size
      obtain ⟨hx0, hx1, hx2, hxl⟩ := blk3 (blk_below hk1 hb (by omega))
      obtain ⟨hy0, hy1, hy2, hyl⟩ := blk3 (blk_below hk2 hb (by omega))
      have hSr := hS3.below (hb.mono (by omega))
      have hTr := hT3.below (hb.mono (by omega))
      clear hcb hfb
      by_cases hlt : k < n
      · obtain ⟨hks, ad, rfl, hab, hc1, hsz⟩ := hSr.at_ hlt
        obtain ⟨hkt, ad2, rfl, hab2, hc2, hsz2⟩ := hTr.at_ hlt
        have HS := Lib.hid (costL_take ss ts k hks hkt)
        have hbd := costL_bd (ss.take k) (ts.take k)
        have htl : (ss.take k).length ≤ k := List.length_take_le _ _
        have hbd2 := areaOf_bd ss[k].data.toList ts[k].data.toList
        obtain ⟨hbda, hbdb⟩ := hbd
        obtain ⟨hbdc, hbdd⟩ := hbd2
        have hw3 : IntKind.i64.wrap (costL (ss.take k) (ts.take k) + areaOf ss[k].data.toList ts[k].data.toList) = costL (ss.take k) (ts.take k) + areaOf ss[k].data.toList ts[k].data.toList := IntWalk.i64_in _ (by omega)
        go_wp2_with (first | (go_at_call 69; refine (i_AreaBetween _ _ _ hsz hsz2).mono ?_; rintro e w3 ⟨rfl, hb3⟩; obtain ⟨hcb3, hfb3⟩ := bcell hb3))
        go_roundw
        case rel => exact ⟨k + 1, by omega, by go_num, by rw [HS.out], bel⟩
        case measure => simp [intOf]; omega
      · have hke : k = n := by omega
        have ta : ss.take k = ss := List.take_of_length_le (by have := HL.out; omega)
        have tb : ts.take k = ts := List.take_of_length_le (by have := HL2.out; omega)
        rw [ta, tb]
        clear ta tb
        subst hke
        go_wp2
        go_ret
        exact ⟨ret_int HP.out.symm, bel⟩
set_option maxHeartbeats 800000 in
theorem i_CardDistance (d f d2 f2 : Int) (B : Nat) (A A2 : Option Addr) (n c n2 c2 : Nat) (ss ts : List ByteArray) (w : World) (hS : Strs w B A n ss) (hT : Strs w B A2 n2 ts) (hB : B ≤ w.heap.size) :
    Calls Try.prog 23 #[.agg #[.int .i64 d, .int .i64 f, .slice A n c], .agg #[.int .i64 d2, .int .i64 f2, .slice A2 n2 c2]] w fun e w' => e = .returned (.int .i64 (costOf d f d2 f2 ss ts)) ∧ Below w.heap.size w w' := by
  have hn := hS.nb
  have hn2 := hT.nb
  have hl := hS.len
  have hl2 := hT.len
  have hS2 := (hS.alloc hB (.cells #[.int .i64 d, .int .i64 f, .slice A n c] 26)).alloc (by simp; omega) (.cells #[.int .i64 d2, .int .i64 f2, .slice A2 n2 c2] 26)
  have hT2 := (hT.alloc hB (.cells #[.int .i64 d, .int .i64 f, .slice A n c] 26)).alloc (by simp; omega) (.cells #[.int .i64 d2, .int .i64 f2, .slice A2 n2 c2] 26)
  clear hl hl2
  go_enter Try.func23, Try.ntmps23
  go_wp2_with (first | (go_at_call 65; refine (i_RepairCost _ _ _ _ B _ _ _ _ _ _ ss ts _ hS2 hT2 (by simp; omega)).mono ?_; rintro e w1 ⟨rfl, hb1⟩))
  go_ret
  exact ⟨rfl, bel⟩
set_option maxHeartbeats 1600000 in
theorem i_SideDistance (d f d2 f2 : Int) (B : Nat) (A A2 : Option Addr) (n c n2 c2 : Nat) (ss ts : List ByteArray) (w : World) (hS : Strs w B A n ss) (hT : Strs w B A2 n2 ts) (hB : B ≤ w.heap.size) :
    Calls Try.prog 25 #[.agg #[.int .i64 d, .int .i64 f, .slice A n c], .agg #[.int .i64 d2, .int .i64 f2, .slice A2 n2 c2]] w fun e w' => e = .returned (.int .i64 (sideOf d f d2 f2 ss ts)) ∧ Below w.heap.size w w' := by
  have hn := hS.nb
  have hn2 := hT.nb
  have hl := hS.len
  have hl2 := hT.len
  have hS2 := (hS.alloc hB (.cells #[.int .i64 d, .int .i64 f, .slice A n c] 26)).alloc (by simp; omega) (.cells #[.int .i64 d2, .int .i64 f2, .slice A2 n2 c2] 26)
  have hT2 := (hT.alloc hB (.cells #[.int .i64 d, .int .i64 f, .slice A n c] 26)).alloc (by simp; omega) (.cells #[.int .i64 d2, .int .i64 f2, .slice A2 n2 c2] 26)
  have hbd := costOf_bd d f d2 f2 ss ts (by omega)
  obtain ⟨hbda, hbdb⟩ := hbd
  by_cases hneg : costOf d f d2 f2 ss ts < 0
  · have HP := Lib.hid (show sideOf d f d2 f2 ss ts = -1 by unfold sideOf; rw [if_pos hneg])
    clear hl hl2
    go_enter Try.func25, Try.ntmps25
    go_wp2_with (first | (go_at_call 23; refine (i_CardDistance _ _ _ _ B _ _ _ _ _ _ ss ts _ hS2 hT2 (by simp; omega)).mono ?_; rintro e w1 ⟨rfl, hb1⟩; obtain ⟨hcb, hfb⟩ := bcell hb1; have hz_w1_0 : w.heap.size < w1.heap.size := (by have hzz := hb1.size; (try simp at hzz); omega); have hy_w1_0 := Nat.le_of_lt hz_w1_0; have hz_w1_1 : w.heap.size + 1 < w1.heap.size := (by have hzz := hb1.size; (try simp at hzz); omega); have hy_w1_1 := Nat.le_of_lt hz_w1_1))
    go_ret
    exact ⟨ret_int HP.out.symm, bel⟩
  · have HP := Lib.hid (show sideOf d f d2 f2 ss ts = min (costOf d f d2 f2 ss ts) (costOf d f (mirrorRes d2 f2 ts).1 (mirrorRes d2 f2 ts).2.1 ss (mirrorRes d2 f2 ts).2.2) by unfold sideOf; rw [if_neg hneg])
    have hbd2 := costOf_bd d f (mirrorRes d2 f2 ts).1 (mirrorRes d2 f2 ts).2.1 ss (mirrorRes d2 f2 ts).2.2 (by omega)
    obtain ⟨hbdc, hbdd⟩ := hbd2
    have hmo := mirror_ok d2 f2 ts 16777216 (by omega) hT.sb
    have HMO := hide hmo
    clear hl hl2 hmo
    have hmir := fun (W : World) (h : Strs W B A2 n2 ts) (hB : B ≤ W.heap.size) => i_MirrorCard d2 f2 B A2 n2 c2 ts W h hB
    have HMIR := hide hmir
    clear hmir
    generalize e1 : (mirrorRes d2 f2 ts).1 = d3 at *
    generalize e2 : (mirrorRes d2 f2 ts).2.1 = f3 at *
    generalize e3 : (mirrorRes d2 f2 ts).2.2 = us at *
    clear e1 e2 e3
    go_enter Try.func25, Try.ntmps25
    go_wp2_with (first | (go_at_call 23; refine (i_CardDistance _ _ _ _ B _ _ _ _ _ _ ss ts _ hS2 hT2 (by simp; omega)).mono ?_; rintro e w1 ⟨rfl, hb1⟩; obtain ⟨hcb, hfb⟩ := bcell hb1; have hz_w1_0 : w.heap.size < w1.heap.size := (by have hzz := hb1.size; (try simp at hzz); omega); have hy_w1_0 := Nat.le_of_lt hz_w1_0; have hz_w1_1 : w.heap.size + 1 < w1.heap.size := (by have hzz := hb1.size; (try simp at hzz); omega); have hy_w1_1 := Nat.le_of_lt hz_w1_1))
    have hS3 := hS2.below (hb1.mono (by simp; omega))
    have hT3 := hT2.below (hb1.mono (by simp; omega))
    have hbw : Below w.heap.size w w1 := bel
    have hk1 : w1.heap[w.heap.size]? = some (.cells #[.int .i64 d, .int .i64 f, .slice A n c] 26) := blk_below (box_first w (.cells #[.int .i64 d, .int .i64 f, .slice A n c] 26) (.cells #[.int .i64 d2, .int .i64 f2, .slice A2 n2 c2] 26)) hb1 (by first | (simp; done) | (simp; omega))
    have hk2 : w1.heap[w.heap.size + 1]? = some (.cells #[.int .i64 d2, .int .i64 f2, .slice A2 n2 c2] 26) := blk_below (box_second w (.cells #[.int .i64 d, .int .i64 f, .slice A n c] 26) (.cells #[.int .i64 d2, .int .i64 f2, .slice A2 n2 c2] 26)) hb1 (by first | (simp; done) | (simp; omega))
    have hz1 : w.heap.size + 1 < w1.heap.size := by omega
    have hBw : B ≤ w1.heap.size := by omega
    obtain ⟨hx0, hx1, hx2, hxl⟩ := blk3 hk1
    obtain ⟨hy0, hy1, hy2, hyl⟩ := blk3 hk2
    go_region_held3 (fun W => (∀ b o, b < w1.heap.size → W.cell? ⟨b, o, none⟩ = (w1).cell? ⟨b, o, none⟩) ∧ (∀ b o, b < w1.heap.size → W.frozen? ⟨b, o, none⟩ = (w1).frozen? ⟨b, o, none⟩) ∧ Below (w1.heap.size) (w1) W) (exact keep_of bel) (first | (go_at_call 68; have hq := (‹_ ∧ _ ∧ Below _ _ _›).2.2; refine (unhide HMIR _ (hT3.below (hq.mono hBw)) (Nat.le_trans hBw hq.size)).mono ?_; rintro e w2 ⟨A3, c3, rfl, ho3, hb3⟩; have hqs := hq.size; have hbs3 := hb3.size; (have hS4 : Strs w2 B A n ss := (hS3.below (hq.mono hBw)).below (hb3.mono (Nat.le_trans hBw hqs))); (try simp at hbs3)) | (go_at_call 23; refine (i_CardDistance _ _ _ _ w2.heap.size _ _ _ _ _ _ ss us _ (hS4.more (by omega)) (strs_of_own ho3 (unhide HMO).1 (unhide HMO).2) (Nat.le_refl _)).mono ?_; rintro e w4 ⟨rfl, hb4⟩; have hbs4 := hb4.size))
    go_wp2
    go_ret
    have hb13 : Below w1.heap.size w1 w2 := (Below.refl _ _).drew.trans hb3
    have hz13 := hb13.size
    have hb14 : Below w1.heap.size w1 w4 := hb13.trans (hb4.mono hz13)
    exact ⟨ret_int HP.out.symm, hbw.trans (hb14.mono (by omega))⟩
end Go.Proofs.Ytccjedongkokoaa
