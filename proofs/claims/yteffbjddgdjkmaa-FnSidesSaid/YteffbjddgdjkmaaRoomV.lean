/- The contracts of RoomUnder, VolumeOf of both packages. -/
import Derived.Test.YteffbjddgdjkmaaArea3
import Derived.Test.YteffbjddgdjkmaaLawKit
namespace Go.Proofs.Yteffbjddgdjkmaa
open Go.ChangeShapes Go.WideShapes Go.ChangeAt Go.RowKit
set_option linter.unusedVariables false
set_option maxRecDepth 10000

def sumL : List Int → Int
  | [] => 0
  | a :: l => a + sumL l
theorem sumL_take (a : List Int) (k : Nat) (ha : k < a.length) : sumL (a.take (k + 1)) = sumL (a.take k) + a[k] := by
  induction k generalizing a with
  | zero => match a, ha with | x :: l, _ => simp [sumL]
  | succ k ih =>
    match a, ha with
    | x :: l, ha => simp only [List.take_succ_cons, sumL, List.getElem_cons_succ]; rw [ih l (by simpa using ha)]; omega
theorem sumL_bd (a : List Int) (M : Int) (hM : 0 ≤ M) (ha : ∀ x ∈ a, -M ≤ x ∧ x ≤ M) : -(M * a.length) ≤ sumL a ∧ sumL a ≤ M * a.length := by
  induction a with
  | nil => simp [sumL]
  | cons x l ih =>
    have h1 := ih (fun z hz => ha z (List.mem_cons_of_mem _ hz))
    have h2 := ha x List.mem_cons_self
    simp only [sumL, List.length_cons]
    have h4 : M * ((l.length + 1 : Nat) : Int) = M * (l.length : Int) + M := by
      rw [show ((l.length + 1 : Nat) : Int) = (l.length : Int) + 1 by omega, Int.mul_add, Int.mul_one]
    rw [h4]
    generalize M * (l.length : Int) = q at *
    omega
def roomOf (s : List UInt8) : Int := if isStrip s = true then sumL (htsOf s) else -1
theorem roomOf_yes {s : List UInt8} (h : isStrip s = true) : roomOf s = sumL (htsOf s) := by unfold roomOf; rw [if_pos h]
theorem roomOf_no {s : List UInt8} (h : isStrip s = false) : roomOf s = -1 := by unfold roomOf; rw [if_neg (by rw [h]; simp)]
theorem roomOf_bd (s : List UInt8) : -128 ≤ roomOf s ∧ roomOf s ≤ 128 := by
  cases h : isStrip s
  · rw [roomOf_no h]; omega
  · rw [roomOf_yes h]
    obtain ⟨h1, h2⟩ := hts_strip h
    have := sumL_bd (htsOf s) 16 (by omega) h2
    omega

set_option maxHeartbeats 1600000 in
theorem i_RoomUnder (s : ByteArray) (w : World) (hs : s.size ≤ 16777216) :
    Calls Try.prog 179 #[.string s] w fun e w' => e = .returned (.int .i64 (roomOf s.data.toList)) ∧ Below w.heap.size w w' := by
  cases h1 : isStrip s.data.toList
  · have HP := Lib.hid (roomOf_no h1)
    go_enter Try.func179, Try.ntmps179
    go_wp2_with (first | (go_at_call 97; refine (i_IsStrip _ _ (by unfold maxLen; omega)).mono ?_; rw [h1]; rintro e w' ⟨rfl, rfl⟩))
    go_ret
    exact ⟨ret_int HP.out.symm, bel⟩
  · have HP := Lib.hid (roomOf_yes h1)
    obtain ⟨la, ba⟩ := hts_strip h1
    have hcon := fun (W : World) => i_HeightsOf s W hs h1
    have HCON := hide hcon
    clear hcon
    generalize ea : htsOf s.data.toList = a at *
    generalize en : a.length = N at *
    have HA := Lib.hid en
    have BA := hide ba
    clear ea en ba
    go_enter Try.func179, Try.ntmps179
    go_wp2_with (first | (go_at_call 97; refine (i_IsStrip _ _ (by unfold maxLen; omega)).mono ?_; rw [h1]; rintro e w' ⟨rfl, rfl⟩))
    refine (unhide HCON _).mono ?_
    unfold FreshInts
    rw [HA.out]
    rintro e w1 ⟨A1, c1, rfl, ho1, hb1⟩
    have hR1 := Reads.of_own ho1
    have hz1 := hb1.size
    clear ho1
    go_wp2
    go_loopw [3, 12] (fun q i wr => ∃ k m : Nat, k ≤ N ∧ i = .int .i64 k ∧ q = .int .i64 (sumL (a.take k)) ∧ wr = w1.drewN m) (fun _ i _ => N - (intOf i).toNat)
    case atStart => exact ⟨0, 0, Nat.zero_le _, rfl, by simp [sumL], rfl⟩
    case round =>
      obtain ⟨k, m, hk, rfl, rfl, rfl⟩ := hrel
      by_cases hlt : k < N
      · obtain ⟨hk1, ad1, rfl, hab1, hc1⟩ := ints_at hR1 hlt
        have HS := Lib.hid (sumL_take a k hk1)
        have bax := unhide BA a[k] (List.getElem_mem hk1)
        have hbd := sumL_bd (a.take k) 16 (by omega) (fun x hx => unhide BA x (List.mem_of_mem_take hx))
        have htl : (a.take k).length ≤ k := List.length_take_le _ _
        obtain ⟨hbda, hbdb⟩ := hbd
        obtain ⟨baxa, baxb⟩ := bax
        have hs1 : -4096 ≤ sumL (a.take k) := by omega
        have hs2 : sumL (a.take k) ≤ 4096 := by omega
        clear hbda hbdb
        generalize ex : a[k] = x at *
        go_wp2
        go_roundw
        case rel => exact ⟨k + 1, m, by omega, by go_num, by rw [HS.out], rfl⟩
        case measure => simp [intOf]; omega
      · have hke : k = N := by omega
        have ta : a.take k = a := List.take_of_length_le (by have := HA.out; omega)
        rw [ta]
        clear ta
        subst hke
        go_wp2
        go_ret
        exact ⟨ret_int HP.out.symm, bel⟩
set_option maxHeartbeats 1600000 in
theorem s_RoomUnder (s : ByteArray) (w : World) (hs : s.size ≤ 16777216) :
    Calls Try.prog 29 #[.string s] w fun e w' => e = .returned (.int .i64 (roomOf s.data.toList)) ∧ Below w.heap.size w w' := by
  cases h1 : isStrip s.data.toList
  · have HP := Lib.hid (roomOf_no h1)
    go_enter Try.func29, Try.ntmps29
    go_wp2_with (first | (go_at_call 85; refine (s_IsStrip _ _ (by unfold maxLen; omega)).mono ?_; rw [h1]; rintro e w' ⟨rfl, rfl⟩))
    go_ret
    exact ⟨ret_int HP.out.symm, bel⟩
  · have HP := Lib.hid (roomOf_yes h1)
    obtain ⟨la, ba⟩ := hts_strip h1
    have hcon := fun (W : World) => s_l07Heights s W hs
    have HCON := hide hcon
    clear hcon
    generalize ea : htsOf s.data.toList = a at *
    generalize en : a.length = N at *
    have HA := Lib.hid en
    have BA := hide ba
    clear ea en ba
    go_enter Try.func29, Try.ntmps29
    go_wp2_with (first | (go_at_call 85; refine (s_IsStrip _ _ (by unfold maxLen; omega)).mono ?_; rw [h1]; rintro e w' ⟨rfl, rfl⟩))
    refine (unhide HCON _).mono ?_
    unfold FreshInts
    rw [HA.out]
    rintro e w1 ⟨A1, c1, rfl, ho1, hb1⟩
    have hR1 := Reads.of_own ho1
    have hz1 := hb1.size
    clear ho1
    go_wp2
    go_loopw [3, 5] (fun q i wr => ∃ k m : Nat, k ≤ N ∧ i = .int .i64 k ∧ q = .int .i64 (sumL (a.take k)) ∧ wr = w1.drewN m) (fun _ i _ => N - (intOf i).toNat)
    case atStart => exact ⟨0, 0, Nat.zero_le _, rfl, by simp [sumL], rfl⟩
    case round =>
      obtain ⟨k, m, hk, rfl, rfl, rfl⟩ := hrel
      by_cases hlt : k < N
      · obtain ⟨hk1, ad1, rfl, hab1, hc1⟩ := ints_at hR1 hlt
        have HS := Lib.hid (sumL_take a k hk1)
        have bax := unhide BA a[k] (List.getElem_mem hk1)
        have hbd := sumL_bd (a.take k) 16 (by omega) (fun x hx => unhide BA x (List.mem_of_mem_take hx))
        have htl : (a.take k).length ≤ k := List.length_take_le _ _
        obtain ⟨hbda, hbdb⟩ := hbd
        obtain ⟨baxa, baxb⟩ := bax
        have hs1 : -4096 ≤ sumL (a.take k) := by omega
        have hs2 : sumL (a.take k) ≤ 4096 := by omega
        clear hbda hbdb
        generalize ex : a[k] = x at *
        go_wp2
        go_roundw
        case rel => exact ⟨k + 1, m, by omega, by go_num, by rw [HS.out], rfl⟩
        case measure => simp [intOf]; omega
      · have hke : k = N := by omega
        have ta : a.take k = a := List.take_of_length_le (by have := HA.out; omega)
        rw [ta]
        clear ta
        subst hke
        go_wp2
        go_ret
        exact ⟨ret_int HP.out.symm, bel⟩

def volL : List ByteArray → Int
  | [] => 0
  | a :: l => roomOf a.data.toList + volL l
theorem volL_take (a : List ByteArray) (k : Nat) (ha : k < a.length) : volL (a.take (k + 1)) = volL (a.take k) + roomOf a[k].data.toList := by
  induction k generalizing a with
  | zero => match a, ha with | x :: l, _ => simp [volL]
  | succ k ih =>
    match a, ha with
    | x :: l, ha => simp only [List.take_succ_cons, volL, List.getElem_cons_succ]; rw [ih l (by simpa using ha)]; omega
theorem volL_bd (a : List ByteArray) : -(128 * (a.length : Int)) ≤ volL a ∧ volL a ≤ 128 * a.length := by
  induction a with
  | nil => simp [volL]
  | cons x l ih =>
    have h2 := roomOf_bd x.data.toList
    simp only [volL, List.length_cons]
    omega
def volOf (d f : Int) (ss : List ByteArray) : Int := if cardOk d f ss = true then volL ss else -1
theorem volOf_bd (d f : Int) (ss : List ByteArray) (h : ss.length ≤ 16777216) : -2147483648 ≤ volOf d f ss ∧ volOf d f ss ≤ 2147483648 := by
  unfold volOf; split
  · have := volL_bd ss; omega
  · omega
set_option maxHeartbeats 1600000 in
theorem i_VolumeOf (d f : Int) (B : Nat) (A : Option Addr) (n c : Nat) (ss : List ByteArray) (w : World) (hS : Strs w B A n ss) (hB : B ≤ w.heap.size) :
    Calls Try.prog 132 #[.agg #[.int .i64 d, .int .i64 f, .slice A n c]] w fun e w' => e = .returned (.int .i64 (volOf d f ss)) ∧ Below w.heap.size w w' := by
  have hn := hS.nb
  have hS2 := hS.alloc hB (.cells #[.int .i64 d, .int .i64 f, .slice A n c] 26)
  have HL := Lib.hid hS.len
  cases hck : cardOk d f ss
  · have HP := Lib.hid (show volOf d f ss = -1 by unfold volOf; rw [if_neg (by rw [hck]; simp)])
    go_enter Try.func132, Try.ntmps132
    go_wp2_with (first | (go_at_call 80; refine (i_CardOk _ _ _ _ _ ss _ (hS2.more (by simp; omega))).mono ?_; rw [hck]; rintro e w1 ⟨rfl, hb1⟩; obtain ⟨hcb, hfb⟩ := bcell hb1; have hz_w1_0 : w.heap.size < w1.heap.size := (by have hzz := hb1.size; (try simp at hzz); omega); have hy_w1_0 := Nat.le_of_lt hz_w1_0))
    go_ret
    exact ⟨ret_int HP.out.symm, bel⟩
  · have HP := Lib.hid (show volOf d f ss = volL ss by unfold volOf; rw [if_pos hck])
    go_enter Try.func132, Try.ntmps132
    go_wp2_with (first | (go_at_call 80; refine (i_CardOk _ _ _ _ _ ss _ (hS2.more (by simp; omega))).mono ?_; rw [hck]; rintro e w1 ⟨rfl, hb1⟩; obtain ⟨hcb, hfb⟩ := bcell hb1; have hz_w1_0 : w.heap.size < w1.heap.size := (by have hzz := hb1.size; (try simp at hzz); omega); have hy_w1_0 := Nat.le_of_lt hz_w1_0))
    have hS3 := hS2.below (hb1.mono (by simp; omega))
    have hk1 := blk_next (blk_new w (.cells #[.int .i64 d, .int .i64 f, .slice A n c] 26)) hb1
    have hbw : Below w.heap.size w w1 := bel
    have hzz := hz_w1_0
    clear hcb hfb
    go_loopw [3, 12] (fun q i wr => ∃ k : Nat, k ≤ n ∧ i = .int .i64 k ∧ q = .int .i64 (volL (ss.take k)) ∧ Below w1.heap.size w1 wr) (fun _ i _ => n - (intOf i).toNat)
    case atStart => exact ⟨0, Nat.zero_le _, rfl, by simp [volL], Below.refl _ _⟩
    case round =>
      obtain ⟨k, hk, rfl, rfl, hb⟩ := hrel
      have hzr := hb.size
      obtain ⟨hx0, hx1, hx2, hxl⟩ := blk3 (blk_below hk1 hb (by omega))
      have hSr := hS3.below (hb.mono (by omega))
      by_cases hlt : k < n
      · obtain ⟨hks, ad, rfl, hab, hc1, hsz⟩ := hSr.at_ hlt
        have HS := Lib.hid (volL_take ss k hks)
        have hbd := volL_bd (ss.take k)
        have htl : (ss.take k).length ≤ k := List.length_take_le _ _
        have hbd2 := roomOf_bd ss[k].data.toList
        obtain ⟨hbda, hbdb⟩ := hbd
        obtain ⟨hbdc, hbdd⟩ := hbd2
        have hs1 : -2147483648 ≤ volL (ss.take k) := by omega
        have hs2 : volL (ss.take k) ≤ 2147483648 := by omega
        clear hbda hbdb
        go_wp2_with (first | (go_at_call 179; refine (i_RoomUnder _ _ hsz).mono ?_; rintro e w3 ⟨rfl, hb3⟩))
        go_roundw
        case rel => exact ⟨k + 1, by omega, by go_num, by rw [HS.out], bel⟩
        case measure => simp [intOf]; omega
      · have hke : k = n := by omega
        have ta : ss.take k = ss := List.take_of_length_le (by have := HL.out; omega)
        rw [ta]
        clear ta
        subst hke
        go_wp2
        go_ret
        exact ⟨ret_int HP.out.symm, hbw.trans (hb.mono (by omega))⟩
set_option maxHeartbeats 1600000 in
theorem s_VolumeOf (d f : Int) (B : Nat) (A : Option Addr) (n c : Nat) (ss : List ByteArray) (w : World) (hS : Strs w B A n ss) (hB : B ≤ w.heap.size) :
    Calls Try.prog 34 #[.agg #[.int .i64 d, .int .i64 f, .slice A n c]] w fun e w' => e = .returned (.int .i64 (volOf d f ss)) ∧ Below w.heap.size w w' := by
  have hn := hS.nb
  have hS2 := hS.alloc hB (.cells #[.int .i64 d, .int .i64 f, .slice A n c] 26)
  have HL := Lib.hid hS.len
  cases hck : cardOk d f ss
  · have HP := Lib.hid (show volOf d f ss = -1 by unfold volOf; rw [if_neg (by rw [hck]; simp)])
    go_enter Try.func34, Try.ntmps34
    go_wp2_with (first | (go_at_call 90; refine (s_CardOk _ _ _ _ _ ss _ (hS2.more (by simp; omega))).mono ?_; rw [hck]; rintro e w1 ⟨rfl, hb1⟩; obtain ⟨hcb, hfb⟩ := bcell hb1; have hz_w1_0 : w.heap.size < w1.heap.size := (by have hzz := hb1.size; (try simp at hzz); omega); have hy_w1_0 := Nat.le_of_lt hz_w1_0))
    go_ret
    exact ⟨ret_int HP.out.symm, bel⟩
  · have HP := Lib.hid (show volOf d f ss = volL ss by unfold volOf; rw [if_pos hck])
    go_enter Try.func34, Try.ntmps34
    go_wp2_with (first | (go_at_call 90; refine (s_CardOk _ _ _ _ _ ss _ (hS2.more (by simp; omega))).mono ?_; rw [hck]; rintro e w1 ⟨rfl, hb1⟩; obtain ⟨hcb, hfb⟩ := bcell hb1; have hz_w1_0 : w.heap.size < w1.heap.size := (by have hzz := hb1.size; (try simp at hzz); omega); have hy_w1_0 := Nat.le_of_lt hz_w1_0))
    have hS3 := hS2.below (hb1.mono (by simp; omega))
    have hk1 := blk_next (blk_new w (.cells #[.int .i64 d, .int .i64 f, .slice A n c] 26)) hb1
    have hbw : Below w.heap.size w w1 := bel
    have hzz := hz_w1_0
    clear hcb hfb
    go_loopw [3, 4] (fun q i wr => ∃ k : Nat, k ≤ n ∧ i = .int .i64 k ∧ q = .int .i64 (volL (ss.take k)) ∧ Below w1.heap.size w1 wr) (fun _ i _ => n - (intOf i).toNat)
    case atStart => exact ⟨0, Nat.zero_le _, rfl, by simp [volL], Below.refl _ _⟩
    case round =>
      obtain ⟨k, hk, rfl, rfl, hb⟩ := hrel
      have hzr := hb.size
      obtain ⟨hx0, hx1, hx2, hxl⟩ := blk3 (blk_below hk1 hb (by omega))
      have hSr := hS3.below (hb.mono (by omega))
      by_cases hlt : k < n
      · obtain ⟨hks, ad, rfl, hab, hc1, hsz⟩ := hSr.at_ hlt
        have HS := Lib.hid (volL_take ss k hks)
        have hbd := volL_bd (ss.take k)
        have htl : (ss.take k).length ≤ k := List.length_take_le _ _
        have hbd2 := roomOf_bd ss[k].data.toList
        obtain ⟨hbda, hbdb⟩ := hbd
        obtain ⟨hbdc, hbdd⟩ := hbd2
        have hs1 : -2147483648 ≤ volL (ss.take k) := by omega
        have hs2 : volL (ss.take k) ≤ 2147483648 := by omega
        clear hbda hbdb
        go_wp2_with (first | (go_at_call 29; refine (s_RoomUnder _ _ hsz).mono ?_; rintro e w3 ⟨rfl, hb3⟩))
        go_roundw
        case rel => exact ⟨k + 1, by omega, by go_num, by rw [HS.out], bel⟩
        case measure => simp [intOf]; omega
      · have hke : k = n := by omega
        have ta : ss.take k = ss := List.take_of_length_le (by have := HL.out; omega)
        rw [ta]
        clear ta
        subst hke
        go_wp2
        go_ret
        exact ⟨ret_int HP.out.symm, hbw.trans (hb.mono (by omega))⟩
end Go.Proofs.Yteffbjddgdjkmaa
