/- ParseUint and SplitFields of both packages. -/
import Derived.Test.YtlimlolciekimaaDoorTxt1
import Derived.Test.YtlimlolciekimaaDoorCard1
import Derived.Test.YtlimlolciekimaaDoorLaw1
import Derived.Test.YtlimlolciekimaaDoorBeqKit
import Derived.Lib.AtoiErrMem
namespace Go.Proofs.YtlimlolciekimaaDoor
open Go.ChangeShapes Go.WideShapes Go.ChangeAt Go.RowKit
set_option linter.unusedVariables false
set_option linter.unusedSimpArgs false
set_option maxRecDepth 10000

theorem var_below {w w' : World} {nm : String} {cs : Array Value} (h : w.var? Tryd.prog nm = some cs) (hb : Below w.heap.size w w') : w'.var? Tryd.prog nm = some cs := by
  unfold World.var? at h ⊢
  cases hg : Tryd.prog.globalNamed nm with
  | none => rw [hg] at h; cases h
  | some g =>
    rw [hg] at h
    have hlt : g < w.heap.size := by
      by_cases h0 : g < w.heap.size
      · exact h0
      · simp [Array.getElem?_eq_none (Nat.le_of_not_lt h0)] at h
    simp only [Option.bind_some] at h ⊢
    rw [hb.block g hlt]
    exact h
/-- what the variables of the library hold -/
structure Errs (w : World) : Prop where
  syn : ∃ t p, w.var? Tryd.prog "strconv.ErrSyntax" = some #[.iface t p]
  ran : ∃ t p, w.var? Tryd.prog "strconv.ErrRange" = some #[.iface t p]
  asc : Lib.TabIs Tryd.prog w "strings.asciiSpace" .u8 Lib.asciiSpaceTab
  tab : Tab w
theorem Errs.below {w w' : World} (h : Errs w) (hb : Below w.heap.size w w') : Errs w' := by
  obtain ⟨⟨t, p, h1⟩, ⟨t2, p2, h2⟩, h3, h4⟩ := h
  exact ⟨⟨t, p, var_below h1 hb⟩, ⟨t2, p2, var_below h2 hb⟩, var_below h3 hb, h4.below hb⟩
theorem i_Atoi_bad (s : ByteArray) (w : World) (hz : s.size ≤ 16777216) (hE : Errs w) (h : ¬ ∃ v, Lib.atoiAll s.data.toList = .ok v) :
    Calls Tryd.prog 20 #[.string s] w fun e w' => ∃ (v : Int) (t N : Nat), e = .returned (.tuple #[.int .i64 v, .iface t (.pointer (some ⟨N, 0, none⟩))]) ∧ Below w.heap.size w w' := by
  obtain ⟨⟨t1, p1, h1⟩, ⟨t2, p2, h2⟩, _, _⟩ := hE
  cases hq : Lib.atoiAll s.data.toList
  · exact absurd ⟨_, hq⟩ h
  · have q := Any.strconv_Atoi_syntax_var Tryd.laysC172 s (by omega) hq t1 p1 w h1
    exact q.mono fun e w' ⟨N, he, _, _, hb⟩ => ⟨_, _, N, he, hb⟩
  · have q := Any.strconv_Atoi_range_var Tryd.laysC172 s (by omega) hq t2 p2 w h2
    exact q.mono fun e w' ⟨N, he, _, _, hb⟩ => ⟨_, _, N, he, hb⟩
set_option maxHeartbeats 1600000 in
theorem i_ParseUint (s : ByteArray) (w : World) (hz : s.size ≤ 16777216) (hE : Errs w) :
    Calls Tryd.prog 13 #[.string s] w fun e w' => e = .returned (.tuple #[.int .i64 (uintV s), .bool (uintOk s)]) ∧ Below w.heap.size w w' := by
  have hno : uintOk s = false → uintV s = 0 := by intro h; unfold uintV; rw [h]; rfl
  by_cases hnok : ∃ v, Lib.atoiAll s.data.toList = .ok v
  · obtain ⟨v, hq⟩ := hnok
    have HA := hide (Tryd.strconv_Atoi_ok s (by omega) v hq w)
    have HB := hide (fun h0 h1 h => atoi_back (s := s) (v := v) h h0 h1)
    have HY := hide (fun h => (atoi_yes (s := s) h).symm.trans hq)
    clear hq
    go_enter Tryd.func13, Tryd.ntmps13
    go_wp2_with fail
    refine HA.out.mono ?_
    clear HA
    rintro e w1 ⟨rfl, hw⟩
    have hb : Below w.heap.size w w1 := by
      rcases hw with rfl | ⟨t, rfl⟩
      · exact Below.refl _ _
      · exact Lib.bytesWorld_below _ _ _
    clear hw
    by_cases hr : 0 ≤ v ∧ v ≤ 1000000000
    · obtain ⟨n, rfl⟩ := Int.eq_ofNat_of_zero_le hr.1
      have hn : n ≤ 1000000000 := by omega
      have hin : inB n 0 1000000000 = true := by simp [inB]; omega
      go_wp2_with (go_at_call 21; refine (i_within _ _ _ _).mono ?_; rw [hin]; rintro e w' ⟨rfl, rfl⟩)
      refine (Tryd.strconv_Itoa n (by omega) (by omega) _ (hE.tab.below hb)).mono ?_
      rintro e w2 ⟨rfl, hk⟩
      have hb2 : Below w.heap.size w w2 := by
        obtain ⟨k, os, hk⟩ := hk
        rw [hk]
        exact hb.trans ((tab_grow _ k os).mono hb.size)
      clear hk
      rw [itoa_nat]
      by_cases he : numT n = s
      · have h1 := uintOk_num hn
        rw [he] at h1
        have HV := Lib.hid h1
        clear h1
        have hne := beq_toList_true he
        go_wp2
        go_ret2
        rw [HV.out.1, HV.out.2]
        exact ⟨rfl, hb2⟩
      · have hne := beq_toList_false he
        have HF : Hid (uintOk s = false) := by
          cases hu : uintOk s with
          | false => rfl
          | true =>
            have h1 := HY.out hu
            injection h1 with h1
            have h2 := uintV_num hu
            have h3 : uintV s = n := by omega
            rw [h3] at h2
            exact absurd h2 he
        go_wp2
        go_ret2
        rw [HF.out, hno HF.out]
        exact ⟨rfl, hb2⟩
    · have hin : inB v 0 1000000000 = false := by
        cases h : inB v 0 1000000000 with
        | false => rfl
        | true => exact absurd (by simpa [inB] using h : 0 ≤ v ∧ v ≤ 1000000000) hr
      have HF : Hid (uintOk s = false) := by
        cases hu : uintOk s with
        | false => rfl
        | true =>
          have h1 := HY.out hu
          injection h1 with h1
          have := uintV_le s
          omega
      go_wp2_with (go_at_call 21; refine (i_within _ _ _ _).mono ?_; rw [hin]; rintro e w' ⟨rfl, rfl⟩)
      go_ret2
      rw [HF.out, hno HF.out]
      exact ⟨rfl, hb⟩
  · have HF : Hid (uintOk s = false) := by
      cases hu : uintOk s with
      | false => rfl
      | true => exact absurd ⟨_, atoi_yes hu⟩ hnok
    have HA := hide (i_Atoi_bad s w (by omega) hE hnok)
    clear hnok
    go_enter Tryd.func13, Tryd.ntmps13
    go_wp2_with fail
    refine HA.out.mono ?_
    clear HA
    rintro e w1 ⟨v, t, N, rfl, hb⟩
    go_wp2
    go_ret2
    rw [HF.out, hno HF.out]
    exact ⟨rfl, hb⟩
theorem uint_long {s : ByteArray} (h : 10 < s.size) : uintOk s = false := by
  cases hu : uintOk s with
  | false => rfl
  | true =>
    unfold uintOk at hu
    simp only [Bool.and_eq_true, decide_eq_true_eq] at hu
    omega
theorem uint_bad {s : ByteArray} {k : Nat} (hk : k < s.size) (h : ¬ (48 ≤ s[k].toNat ∧ s[k].toNat ≤ 57)) : uintOk s = false := by
  cases hu : uintOk s with
  | false => rfl
  | true =>
    unfold uintOk digL at hu
    simp only [Bool.and_eq_true, decide_eq_true_eq, List.all_eq_true] at hu
    exact absurd (hu.2.1 s[k] (List.getElem_mem (l := s.data.toList) (by simpa using hk))) h
theorem decF_snoc {s : ByteArray} {k : Nat} (hk : k < s.size) : decF 0 (s.data.toList.take (k + 1)) = 10 * decF 0 (s.data.toList.take k) + (s[k].toNat - 48) := by
  rw [take_snoc s k hk, decF_append]; rfl
theorem decF_lt : ∀ (l : List UInt8) (n : Nat), digL l = true → decF n l < (n + 1) * 10 ^ l.length
  | [], n, _ => by simp [decF]
  | c :: l, n, h => by
    unfold digL at h
    simp only [List.all_cons, Bool.and_eq_true, decide_eq_true_eq] at h
    have ih := decF_lt l (10 * n + (c.toNat - 48)) h.2
    show decF (10 * n + (c.toNat - 48)) l < _
    have h2 : (10 * n + (c.toNat - 48) + 1) * 10 ^ l.length ≤ ((n + 1) * 10) * 10 ^ l.length := Nat.mul_le_mul_right _ (by omega)
    rw [List.length_cons, Nat.pow_succ, Nat.mul_comm (10 ^ l.length) 10, ← Nat.mul_assoc]
    omega
theorem decF_bd {s : ByteArray} {k : Nat} (h : digL (s.data.toList.take k) = true) (hk : k ≤ 10) : decF 0 (s.data.toList.take k) < 10000000000 := by
  have h1 := decF_lt _ 0 h
  have h2 : (s.data.toList.take k).length ≤ 10 := by rw [List.length_take]; omega
  have h3 : 10 ^ (s.data.toList.take k).length ≤ 10 ^ 10 := Nat.pow_le_pow_right (by decide) h2
  omega
theorem uint_end {s : ByteArray} (h1 : s.size ≤ 10) (h2 : digL s.data.toList = true) : uintOk s = (decide (decF 0 s.data.toList ≤ 1000000000) && decide (numT (decF 0 s.data.toList) = s)) := by
  unfold uintOk; rw [h2]; simp [h1]
theorem digL_snoc {s : ByteArray} {k : Nat} (hk : k < s.size) (h : digL (s.data.toList.take k) = true) (h2 : 48 ≤ s[k].toNat ∧ s[k].toNat ≤ 57) : digL (s.data.toList.take (k + 1)) = true := by
  rw [take_snoc s k hk, digL_append, h]
  unfold digL
  simp [h2.1, h2.2]
set_option maxHeartbeats 1600000 in
theorem s_ParseUint (s : ByteArray) (w : World) (hz : s.size ≤ 16777216) :
    Calls Tryd.prog 16 #[.string s] w fun e w' => e = .returned (.tuple #[.int .i64 (uintV s), .bool (uintOk s)]) ∧ Below w.heap.size w w' := by
  have hno : uintOk s = false → uintV s = 0 := by intro h; unfold uintV; rw [h]; rfl
  by_cases hl : 10 < s.size
  · have HF := Lib.hid (uint_long hl)
    go_enter Tryd.func16, Tryd.ntmps16
    go_wp2
    go_ret2
    rw [HF.out, hno HF.out]
    exact ⟨rfl, Below.refl _ _⟩
  · go_enter Tryd.func16, Tryd.ntmps16
    go_wp2
    go_loop [4, 5] (fun n i => ∃ k : Nat, k ≤ s.size ∧ i = .int .i64 k ∧ n = .int .i64 (decF 0 (s.data.toList.take k)) ∧ Hid (digL (s.data.toList.take k) = true)) (fun _ i => s.size - (intOf i).toNat)
    case atStart => exact ⟨0, Nat.zero_le _, rfl, rfl, rfl⟩
    case round =>
      obtain ⟨k, hk, rfl, rfl, HD⟩ := hrel
      have hbd := decF_bd HD.out (by omega)
      by_cases hlt : k < s.size
      · by_cases h1 : 48 ≤ s[k].toNat ∧ s[k].toNat ≤ 57
        · have HS := Lib.hid (decF_snoc hlt)
          have HG := Lib.hid (digL_snoc hlt HD.out h1)
          obtain ⟨h1a, h1b⟩ := h1
          obtain ⟨D, hD⟩ : ∃ D, decF 0 (s.data.toList.take k) = D := ⟨_, rfl⟩
          rw [hD] at hbd HS ⊢
          clear hD
          have hw1 : IntKind.i64.wrap (10 * (D : Int)) = 10 * (D : Int) := by rw [IntKind.wrap_i64]; omega
          have hw2 : IntKind.i64.wrap (10 * (D : Int) + (s[k].toNat : Int)) = 10 * (D : Int) + (s[k].toNat : Int) := by rw [IntKind.wrap_i64]; omega
          have hw3 : IntKind.i64.wrap (10 * (D : Int) + (s[k].toNat : Int) - 48) = 10 * (D : Int) + (s[k].toNat : Int) - 48 := by rw [IntKind.wrap_i64]; omega
          have b1 : decide ((s[k].toNat : Int) < 48) = false := by simp; omega
          have b2 : decide ((s[k].toNat : Int) > 57) = false := by simp; omega
          go_wp2
          go_round
          case rel => exact ⟨k + 1, by omega, by go_num, by rw [HS.out]; go_num, HG⟩
          case measure => simp [intOf]; omega
        · have HF := Lib.hid (uint_bad hlt h1)
          by_cases h2 : 48 ≤ s[k].toNat
          · have b1 : decide ((s[k].toNat : Int) < 48) = false := by simp; omega
            have b2 : decide ((s[k].toNat : Int) > 57) = true := by simp; omega
            go_wp2
            go_ret2
            rw [HF.out, hno HF.out]
            exact ⟨rfl, Below.refl _ _⟩
          · have b1 : decide ((s[k].toNat : Int) < 48) = true := by simp; omega
            go_wp2
            go_ret2
            rw [HF.out, hno HF.out]
            exact ⟨rfl, Below.refl _ _⟩
      · have hks : k = s.size := by omega
        subst hks
        have ht : s.data.toList.take s.size = s.data.toList := List.take_of_length_le (by simp)
        rw [ht] at HD hbd ⊢
        have HU := Lib.hid (uint_end (by omega) HD.out)
        obtain ⟨D, hD⟩ : ∃ D, decF 0 s.data.toList = D := ⟨_, rfl⟩
        have HV : Hid (uintOk s = true → uintV s = D) := by intro h; unfold uintV; rw [if_pos h, hD]
        rw [hD] at hbd HU ⊢
        clear hD ht
        by_cases hD9 : D ≤ 1000000000
        · go_wp2_with fail
          refine (s_FormatInt D _ hD9).mono ?_
          rintro e w1 ⟨rfl, hb1⟩
          by_cases he : numT D = s
          · have hne := beq_toList_true he
            have HT : Hid (uintOk s = true) := by
              have := HU.out
              rw [decide_eq_true hD9, decide_eq_true he] at this
              exact this
            go_wp2
            go_ret2
            rw [HT.out, HV.out HT.out]
            exact ⟨rfl, hb1⟩
          · have hne := beq_toList_false he
            have HF : Hid (uintOk s = false) := by
              have := HU.out
              rw [decide_eq_false he, Bool.and_false] at this
              exact this
            go_wp2
            go_ret2
            rw [HF.out, hno HF.out]
            exact ⟨rfl, hb1⟩
        · have HF : Hid (uintOk s = false) := by
            have := HU.out
            rw [decide_eq_false hD9, Bool.false_and] at this
            exact this
          go_wp2
          go_ret2
          rw [HF.out, hno HF.out]
          exact ⟨rfl, Below.refl _ _⟩
set_option maxHeartbeats 1600000 in
theorem i_SplitFields (s : ByteArray) (w : World) (hE : Errs w) (hz : s.size ≤ 16777216) :
    Calls Tryd.prog 11 #[.string s] w fun e w' => (fldOk s = false ∧ e = .returned (.tuple #[.slice none 0 0, .bool false]) ∧ Below w.heap.size w w') ∨ (fldOk s = true ∧ ∃ A c, e = .returned (.tuple #[.slice A (flds s).length c, .bool true]) ∧ w'.ownsRow w.heap.size 9 1 (.slice A (flds s).length c) (flds s).length ((flds s).map Value.string) ∧ Below w.heap.size w w') := by
  by_cases hl : 600 < s.size
  · have HF := Lib.hid (fldOk_long hl)
    go_enter Tryd.func11, Tryd.ntmps11
    go_wp2
    go_ret2
    exact .inl ⟨HF.out, rfl, Below.refl _ _⟩
  · go_enter Tryd.func11, Tryd.ntmps11
    go_wp2
    go_loop [4, 11] (fun _ i => ∃ k : Nat, k ≤ s.size ∧ i = .int .i64 k ∧ Hid (∀ j (hj : j < s.size), j < k → pr s[j] = true)) (fun _ i => s.size - (intOf i).toNat)
    case atStart => exact ⟨0, Nat.zero_le _, rfl, fun j _ h => absurd h (Nat.not_lt_zero _)⟩
    case round =>
      obtain ⟨k, hk, rfl, HP⟩ := hrel
      by_cases hlt : k < s.size
      · by_cases h1 : 32 ≤ s[k].toNat
        · have b1 : decide ((s[k].toNat : Int) < 32) = false := by simp; omega
          by_cases h2 : s[k].toNat ≤ 126
          · have b2 : decide ((s[k].toNat : Int) > 126) = false := by simp; omega
            have HN := hide (okT HP.out hlt (by unfold pr; simp [h1, h2]))
            go_wp2
            go_round
            case rel => exact ⟨k + 1, by omega, by go_num, HN⟩
            case measure => simp [intOf]; omega
          · have b2 : decide ((s[k].toNat : Int) > 126) = true := by simp; omega
            have HF := Lib.hid (fldOk_bad hlt (by unfold pr; simp; omega))
            go_wp2
            go_ret2
            exact .inl ⟨HF.out, rfl, Below.refl _ _⟩
        · have b1 : decide ((s[k].toNat : Int) < 32) = true := by simp; omega
          have HF := Lib.hid (fldOk_bad hlt (by unfold pr; simp; omega))
          go_wp2
          go_ret2
          exact .inl ⟨HF.out, rfl, Below.refl _ _⟩
      · have hks : k = s.size := by omega
        subst hks
        have hasc : ∀ (j : Nat) b, s.data.toList[j]? = some b → b.toNat < 128 := by
          intro j b hb
          obtain ⟨hj, he⟩ := List.getElem?_eq_some_iff.1 hb
          have hj2 : j < s.size := by simpa using hj
          have := HP.out j hj2 hj2
          unfold pr at this
          simp only [Bool.and_eq_true, decide_eq_true_eq] at this
          have h3 : s[j] = b := he
          rw [h3] at this
          omega
        have HC := hide (Tryd.strings_Fields_laid s w (by omega) hasc hE.asc)
        have hlen : (Lib.fields s.data.toList).length = (flds s).length := by unfold flds; rw [List.length_map]
        have hcel : ((Lib.fields s.data.toList).map fun l => Value.string ⟨l.toArray⟩) = (flds s).map Value.string := by unfold flds; rw [List.map_map]; rfl
        rw [hlen, hcel] at HC
        have hfl := flds_len s
        have hown : (w.alloc (.cells ((flds s).map Value.string).toArray 9)).ownsRow w.heap.size 9 1 (.slice (some ⟨w.heap.size, 0, none⟩) (flds s).length (flds s).length) (flds s).length ((flds s).map Value.string) := by
          have h := World.ownsRow_lit (w := w) (base := w.heap.size) (e := 9) (size := 1) ((flds s).map Value.string).toArray (flds s).length (Nat.le_refl _) (by unfold maxLen; omega) (by simp)
          simpa using h
        have HO := hide hown
        have HS : Hid (fldOk s = decide ((flds s).length ≤ 24)) := by
          unfold Hid
          by_cases h24 : (flds s).length ≤ 24
          · rw [decide_eq_true h24]; exact fldOk_iff.2 ⟨by omega, fun i hi => HP.out i hi hi, h24⟩
          · rw [decide_eq_false h24]; exact fldOk_many (by omega)
        clear hlen hcel hasc hown
        go_wp2_with fail
        refine HC.out.mono ?_
        clear HC
        obtain ⟨n, hn⟩ : ∃ n, (flds s).length = n := ⟨_, rfl⟩
        rw [hn] at HO HS hfl ⊢
        have HN2 := Lib.hid hn
        clear hn
        rintro e w1 ⟨rfl, rfl⟩
        by_cases h24 : n ≤ 24
        · go_wp2
          go_ret2
          have e2 := HN2.out
          subst e2
          exact .inr ⟨by rw [HS.out, decide_eq_true h24], _, _, rfl, HO.out, bel⟩
        · go_wp2
          go_ret2
          exact .inl ⟨by rw [HS.out, decide_eq_false h24], rfl, bel⟩
set_option maxHeartbeats 3200000 in
theorem s_SplitFields (s : ByteArray) (w : World) (hz : s.size ≤ 16777216) :
    Calls Tryd.prog 7 #[.string s] w fun e w' => (fldOk s = false ∧ ∃ A c, e = .returned (.tuple #[.slice A 0 c, .bool false]) ∧ Below w.heap.size w w') ∨ (fldOk s = true ∧ ∃ A c, e = .returned (.tuple #[.slice A (flds s).length c, .bool true]) ∧ w'.ownsRow w.heap.size 9 1 (.slice A (flds s).length c) (flds s).length ((flds s).map Value.string) ∧ Below w.heap.size w w') := by
  by_cases hl : 600 < s.size
  · have HF := Lib.hid (fldOk_long hl)
    go_enter Tryd.func7, Tryd.ntmps7
    go_wp2
    go_ret2
    exact .inl ⟨HF.out, _, _, rfl, bel⟩
  · obtain ⟨i0, hi0, hz0, hz1, hz2⟩ := info_parts info_str
    go_enter Tryd.func7, Tryd.ntmps7
    go_wp2
    go_loopw [4, 5, 6] (fun o b i wr => ∃ (k m n : Nat) (xs : List ByteArray) (A : Option Addr) (c : Nat), i = .int .i64 k ∧ b = .int .i64 m ∧ o = .slice A n c ∧ n ≤ k ∧ k ≤ s.size + 1 ∧ m ≤ k ∧ wr.ownsRow w.heap.size 9 1 (.slice A n c) n (xs.map Value.string) ∧ Below w.heap.size w wr ∧ Hid (xs.length = n) ∧ Hid ((k ≤ s.size ∧ SpI s k m xs) ∨ (k = s.size + 1 ∧ xs = flds s)) ∧ Hid (∀ j (hj : j < s.size), j < k → pr s[j] = true)) (fun _ _ i _ => s.size + 1 - (intOf i).toNat)
    case atStart =>
      refine ⟨0, 0, 0, [], some ⟨w.heap.size, 0, none⟩, 0, rfl, rfl, rfl, Nat.le_refl _, Nat.zero_le _, Nat.le_refl _, ?_, bel, rfl, .inl ⟨Nat.zero_le _, SpI.start s⟩, fun j _ h => absurd h (Nat.not_lt_zero _)⟩
      have h := World.ownsRow_lit (w := w) (base := w.heap.size) (e := 9) (size := 1) #[] 0 (Nat.le_refl _) (by unfold maxLen; omega) (by simp)
      simpa using h
    case round =>
      obtain ⟨k, m, n, xs, A, c, rfl, rfl, rfl, hnk, hk, hm, hown, hb, HL, HD, HP⟩ := hrel
      have hzr := hb.size
      have HO := hide hown
      by_cases hle : k ≤ s.size
      · have HI : Hid (SpI s k m xs) := by rcases HD.out with h | h; exact h.2; omega
        clear HD
        by_cases hlt : k < s.size
        · by_cases h1 : 32 ≤ s[k].toNat
          · have b1 : decide ((s[k].toNat : Int) < 32) = false := by simp; omega
            by_cases h2 : s[k].toNat ≤ 126
            · have b2 : decide ((s[k].toNat : Int) > 126) = false := by simp; omega
              have hpr : pr s[k] = true := by unfold pr; simp [h1, h2]
              have HN := hide (okT HP.out hlt hpr)
              have hsp := pr_sp hpr
              by_cases h32 : s[k] = 32
              · have b3 : ((s[k].toNat : Int) == 32) = true := by rw [h32]; rfl
                have hs1 : Lib.isSp s[k] = true := by rw [hsp, h32]; rfl
                by_cases hmk : m < k
                · have HW := hide (HI.out.word hlt hs1 hmk)
                  have hone : ∀ u ∈ [Value.string (s.extract m k)], u.oneCell' = true := by intro u hu; simp at hu; subst hu; rfl
                  have HONE := hide hone
                  clear hone hsp hs1 h32 hpr
                  go_wp2_with (at_builtin; refine wpList_append_N _ rfl (.tmp 48) (.tmp 53) _ rfl w.heap.size 9 i0 _ 1 16 Tryd.underlying28 hi0 hz0 hz1 hz2 rfl (by omega) (.slice A n c) n (xs.map Value.string) rfl (hown.alloc _) (_ + 1) (some ⟨_, 0, none⟩) 1 1 [Value.string (s.extract m k)] rfl (reads_one _ _) HONE.out ?_ ?_ ?_ (n + 1) ((xs ++ [s.extract m k]).map Value.string) rfl (by simp) ?_; (unfold maxLen; omega); omega; (simp; omega); intro A2 c2 w3 ho3 hb3)
                  go_roundw
                  case rel => exact ⟨k + 1, k + 1, n + 1, _, A2, c2, by go_num, by go_num, rfl, by omega, by omega, by omega, ho3, (hb.alloc hzr _).trans hb3, by unfold Hid; rw [List.length_append, HL.out]; rfl, .inl ⟨by omega, HW.out⟩, HN⟩
                  case measure => simp [intOf]; omega
                · have HW := hide (HI.out.gap hlt hs1 hmk)
                  clear hsp hs1 h32 hpr
                  go_wp2
                  go_roundw
                  case rel => exact ⟨k + 1, k + 1, n, xs, A, c, by go_num, by go_num, rfl, by omega, by omega, by omega, HO.out, hb, HL, .inl ⟨by omega, HW.out⟩, HN⟩
                  case measure => simp [intOf]; omega
              · have b3 : ((s[k].toNat : Int) == 32) = false := by
                  rw [beq_eq_false_iff_ne]; intro h; exact h32 (UInt8.toNat_inj.1 (by show s[k].toNat = 32; omega))
                have hs1 : Lib.isSp s[k] = false := by rw [hsp]; simp [h32]
                have HW := hide (HI.out.more hlt hs1)
                clear hsp hs1 h32 hpr
                go_wp2
                go_roundw
                case rel => exact ⟨k + 1, m, n, xs, A, c, by go_num, rfl, rfl, by omega, by omega, by omega, HO.out, hb, HL, .inl ⟨by omega, HW.out⟩, HN⟩
                case measure => simp [intOf]; omega
            · have b2 : decide ((s[k].toNat : Int) > 126) = true := by simp; omega
              have HF := Lib.hid (fldOk_bad hlt (by unfold pr; simp; omega))
              go_wp2
              go_ret2
              exact .inl ⟨HF.out, _, _, rfl, hb.trans bel⟩
          · have b1 : decide ((s[k].toNat : Int) < 32) = true := by simp; omega
            have HF := Lib.hid (fldOk_bad hlt (by unfold pr; simp; omega))
            go_wp2
            go_ret2
            exact .inl ⟨HF.out, _, _, rfl, hb.trans bel⟩
        · have hks : k = s.size := by omega
          have hki : ¬ (k : Int) < (s.size : Int) := by omega
          have HN : Hid (∀ j (hj : j < s.size), j < k + 1 → pr s[j] = true) := fun j hj _ => HP.out j hj (by omega)
          have HI2 : Hid (SpI s s.size m xs) := by have := HI.out; rw [hks] at this; exact this
          by_cases hmk : m < k
          · have HW : Hid (xs ++ [s.extract m k] = flds s) := by
              have := HI2.out.end_word (by omega)
              unfold Hid; rw [hks]; exact this
            have hone : ∀ u ∈ [Value.string (s.extract m k)], u.oneCell' = true := by intro u hu; simp at hu; subst hu; rfl
            have HONE := hide hone
            have HKS := Lib.hid hks
            clear hone hks
            go_wp2_with (at_builtin; refine wpList_append_N _ rfl (.tmp 48) (.tmp 53) _ rfl w.heap.size 9 i0 _ 1 16 Tryd.underlying28 hi0 hz0 hz1 hz2 rfl (by omega) (.slice A n c) n (xs.map Value.string) rfl (hown.alloc _) (_ + 1) (some ⟨_, 0, none⟩) 1 1 [Value.string (s.extract m k)] rfl (reads_one _ _) HONE.out ?_ ?_ ?_ (n + 1) ((xs ++ [s.extract m k]).map Value.string) rfl (by simp) ?_; (unfold maxLen; omega); omega; (simp; omega); intro A2 c2 w3 ho3 hb3)
            go_roundw
            case rel => exact ⟨k + 1, k + 1, n + 1, _, A2, c2, by go_num, by go_num, rfl, by omega, by omega, by omega, ho3, (hb.alloc hzr _).trans hb3, by unfold Hid; rw [List.length_append, HL.out]; rfl, .inr ⟨by have := HKS.out; omega, HW.out⟩, HN⟩
            case measure => simp [intOf]; omega
          · have HW : Hid (xs = flds s) := HI2.out.end_gap (by omega)
            have HKS := Lib.hid hks
            clear hks
            go_wp2
            go_roundw
            case rel => exact ⟨k + 1, k + 1, n, xs, A, c, by go_num, by go_num, rfl, by omega, by omega, by omega, HO.out, hb, HL, .inr ⟨by have := HKS.out; omega, HW.out⟩, HN⟩
            case measure => simp [intOf]; omega
      · have HX : Hid (xs = flds s) := by rcases HD.out with h | h; omega; exact h.2
        have HS : Hid (fldOk s = decide (n ≤ 24)) := by
          unfold Hid
          have h1 := HL.out
          rw [HX.out] at h1
          by_cases h24 : n ≤ 24
          · rw [decide_eq_true h24]; exact fldOk_iff.2 ⟨by omega, fun i hi => HP.out i hi (by omega), by omega⟩
          · rw [decide_eq_false h24]; exact fldOk_many (by omega)
        clear hown
        by_cases h24 : n ≤ 24
        · go_wp2
          go_ret2
          have h1 := HL.out
          have h2 := HO.out
          rw [HX.out] at h1 h2
          subst h1
          exact .inr ⟨by rw [HS.out, decide_eq_true h24], _, _, rfl, h2, hb⟩
        · go_wp2
          go_ret2
          exact .inl ⟨by rw [HS.out, decide_eq_false h24], _, _, rfl, hb.trans bel⟩
end Go.Proofs.YtlimlolciekimaaDoor
