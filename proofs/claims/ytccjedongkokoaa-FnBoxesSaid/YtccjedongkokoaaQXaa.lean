/- Contracts of the program's and the reference's functions (FlipOk, Same1, CardP, RoomV, Mix1, SideP, BoxP). -/
import Derived.Deep.DeepCutAuto
import Derived.Deep.RegionHeld3
import Derived.Test.YtccjedongkokoaaRows
import Derived.Test.YtccjedongkokoaaQXc
import Derived.Test.YtccjedongkokoaaQXa
import Derived.Test.YtccjedongkokoaaQXb
import Derived.Test.YtccjedongkokoaaQXu
import Derived.Test.YtccjedongkokoaaQXo
namespace Go.Proofs.Ytccjedongkokoaa
open Go.ChangeShapes Go.WideShapes Go.ChangeAt Go.RowKit
set_option linter.unusedVariables false
set_option maxRecDepth 10000
theorem strip_letter {l : List UInt8} (h : cnt 100 l + cnt 102 l = l.length) : ∀ x ∈ l, x = 100 ∨ x = 102 := by
  induction l with
  | nil => intro x hx; cases hx
  | cons a t ih =>
    have ht := cnt_two t
    have e1 : cnt 100 (a :: t) = cnt 100 t + (if a = 100 then 1 else 0) := by unfold cnt; rw [List.count_cons]; by_cases q : a = 100 <;> simp [q]
    have e2 : cnt 102 (a :: t) = cnt 102 t + (if a = 102 then 1 else 0) := by unfold cnt; rw [List.count_cons]; by_cases q : a = 102 <;> simp [q]
    rw [e1, e2, List.length_cons] at h
    have ha : a = 100 ∨ a = 102 := by
      by_cases q1 : a = 100
      · exact .inl q1
      · by_cases q2 : a = 102
        · exact .inr q2
        · rw [if_neg q1, if_neg q2] at h; omega
    have hne : ¬ ((100 : UInt8) = 102) := by decide
    intro x hx
    rcases List.mem_cons.1 hx with rfl | hx
    · exact ha
    · refine ih ?_ x hx
      rcases ha with rfl | rfl
      · rw [if_pos rfl, if_neg hne] at h; omega
      · rw [if_neg (Ne.symm hne), if_pos rfl] at h; omega
theorem cnt_swap (c : UInt8) (p q : List UInt8) (a b : UInt8) : cnt c (p ++ [b, a] ++ q) = cnt c (p ++ [a, b] ++ q) := by
  unfold cnt
  simp only [List.count_append, List.count_cons, List.count_nil]
  omega
theorem split_at {l : List UInt8} {K : Nat} (h : K + 1 < l.length) : l = l.take K ++ [l[K], l[K + 1]] ++ l.drop (K + 2) := by
  have h1 : l.drop K = l[K] :: l.drop (K + 1) := List.drop_eq_getElem_cons (by omega)
  have h2 : l.drop (K + 1) = l[K + 1] :: l.drop (K + 2) := List.drop_eq_getElem_cons (by omega)
  conv => lhs; rw [← List.take_append_drop K l, h1, h2]
  simp
theorem swapL_split (p q : List UInt8) (a b : UInt8) (K : Nat) (hp : p.length = K) : swapL (p ++ [a, b] ++ q) (K + 1) = p ++ [b, a] ++ q := by
  subst hp
  unfold swapL
  have h1 : List.drop (p.length + 1) p = [] := List.drop_eq_nil_of_le (by omega)
  have h2 : List.drop (p.length + 1 + 1) p = [] := List.drop_eq_nil_of_le (by omega)
  have h3 : p.length + 1 + 1 - p.length = 2 := by omega
  simp [List.drop_append, h1, h2, h3]
theorem swap_data {c : UInt8} {s : ByteArray} {k : Int} (h : cornerB c s k = true) : ∃ (p q : List UInt8) (a b : UInt8), s.data.toList = p ++ [a, b] ++ q ∧ k = ((p.length + 1 : Nat) : Int) ∧ (swapB s k).data.toList = p ++ [b, a] ++ q ∧ a = c ∧ b ≠ a := by
  obtain ⟨L, K, rfl, hKL, hL⟩ := cornerB_pos h
  subst hKL
  have hl : s.data.toList.length = s.size := by simp
  have hsp := split_at (l := s.data.toList) (K := K) (by omega)
  have hpl : (s.data.toList.take K).length = K := by rw [List.length_take]; omega
  refine ⟨s.data.toList.take K, s.data.toList.drop (K + 2), s.data.toList[K]'(by omega), s.data.toList[K + 1]'(by omega), hsp, by rw [hpl], ?_, ?_, ?_⟩
  · unfold swapB
    simp only [Int.toNat_natCast]
    have := swapL_split (s.data.toList.take K) (s.data.toList.drop (K + 2)) (s.data.toList[K]'(by omega)) (s.data.toList[K + 1]'(by omega)) K hpl
    rw [← hsp] at this
    exact this
  · unfold cornerB at h
    simp only [Bool.and_eq_true, beq_iff_eq] at h
    have h2 := h.2
    rw [show ((K + 1 : Nat) : Int) - 1 = (K : Int) by omega, chr_get s K (by omega)] at h2
    exact h2
  · unfold cornerB cornerAny at h
    simp only [Bool.and_eq_true] at h
    have h2 := h.1.2.2
    rw [show ((K + 1 : Nat) : Int) - 1 = (K : Int) by omega, chr_get s K (by omega), chr_get s (K + 1) (by omega)] at h2
    have h3 : s[K] ≠ s[K + 1] := by simpa using h2
    exact fun e => h3 e.symm
theorem strip_cnt {l : List UInt8} (h : isStrip l = true) : cnt 100 l + cnt 102 l = l.length := by
  unfold isStrip at h
  simp only [Bool.and_eq_true, beq_iff_eq] at h
  exact h.1
theorem isStrip_swap (p q : List UInt8) (a b : UInt8) : isStrip (p ++ [b, a] ++ q) = isStrip (p ++ [a, b] ++ q) := by
  unfold isStrip
  rw [cnt_swap 100, cnt_swap 102]
  simp
theorem stripOf_swap {c : UInt8} {s : ByteArray} {k : Int} (h : cornerB c s k = true) (d f : Int) : stripOf d f (swapB s k) = stripOf d f s := by
  obtain ⟨p, q, a, b, h1, _, h2, _⟩ := swap_data h
  unfold stripOf downOf forwardOf
  rw [h1, h2, isStrip_swap, cnt_swap 100, cnt_swap 102]
def otherC (c : UInt8) : UInt8 := if c = 100 then 102 else 100
theorem corner_back {c : UInt8} (hc : c = 100 ∨ c = 102) {s : ByteArray} {k : Int} (h : cornerB c s k = true) : cornerB (otherC c) (swapB s k) k = true := by
  obtain ⟨p, q, a, b, h1, hk, h2, ha, hb⟩ := swap_data h
  have hs : isStrip s.data.toList = true := by
    unfold cornerB at h
    simp only [Bool.and_eq_true] at h
    exact h.1.1
  have hl := strip_letter (strip_cnt hs)
  have hbl : b = 100 ∨ b = 102 := hl b (by rw [h1]; simp)
  have hbo : b = otherC c := by
    unfold otherC
    rcases hc with rfl | rfl
    · rw [if_pos rfl]
      rcases hbl with h3 | h3
      · exact absurd (h3.trans ha.symm) hb
      · exact h3
    · rw [if_neg (by decide)]
      rcases hbl with h3 | h3
      · exact h3
      · exact absurd (h3.trans ha.symm) hb
  have hsz : (swapB s k).size = p.length + (2 + q.length) := by
    have : (swapB s k).data.toList.length = (swapB s k).size := by simp
    rw [← this, h2]; simp; omega
  have hc1 : chr (swapB s k) (k - 1) = b := by
    unfold chr
    rw [h2, hk, show (((p.length + 1 : Nat) : Int) - 1).toNat = p.length by omega]
    simp
  have hc2 : chr (swapB s k) k = a := by
    unfold chr
    rw [h2, hk, Int.toNat_natCast]
    simp
  unfold cornerB cornerAny
  rw [h2, isStrip_swap, ← h1, hs, hc1, hc2, hsz]
  have hin : inB k 1 (((p.length + (2 + q.length) : Nat) : Int) - 1) = true := inB_iff'.2 ⟨by omega, by omega⟩
  rw [hin]
  have hb2 : ¬ otherC c = a := fun e => hb (hbo.trans e)
  simp [hbo, hb2]
theorem cardOk_flips {c : UInt8} {d f at_ : Int} {ss : List ByteArray} {F m : Nat} (h : cardOk d f ss = true) (ha : allC c at_ ss F m = true) : cardOk d f (flips at_ ss F m) = true := by
  unfold cardOk at *
  simp only [Bool.and_eq_true] at *
  rw [flips_len]
  refine ⟨h.1, h.2.1, ?_⟩
  rw [List.all_eq_true] at *
  intro x hx
  obtain ⟨i, hi, rfl⟩ := List.getElem_of_mem hx
  have hi2 : i < ss.length := by rw [flips_len] at hi; exact hi
  simp only [flips, List.getElem_mapIdx]
  split
  · rename_i hr
    have hcr : cornerB c ss[i] at_ = true := by
      unfold allC at ha
      rw [List.all_eq_true] at ha
      refine ha _ ?_
      rw [List.mem_take_iff_getElem]
      exact ⟨i - F, by rw [List.length_drop]; omega, by simp [show F + (i - F) = i by omega]⟩
    rw [stripOf_swap hcr]
    exact h.2.2 _ (List.getElem_mem hi2)
  · exact h.2.2 _ (List.getElem_mem hi2)
end Go.Proofs.Ytccjedongkokoaa
namespace Go.Proofs.Ytccjedongkokoaa
open Go.ChangeShapes Go.WideShapes Go.ChangeAt Go.RowKit
set_option linter.unusedVariables false
set_option maxRecDepth 10000
set_option maxHeartbeats 800000 in
theorem equal_str (B : Nat) (A1 A2 : Option Addr) (n1 n2 c1 c2 : Nat) (ss ts : List ByteArray) (w : World) (h1 : Strs w B A1 n1 ss) (h2 : Strs w B A2 n2 ts) :
    Calls Try.prog 54 #[.slice A1 n1 c1, .slice A2 n2 c2] w fun e w' => e = .returned (.bool (eqSS ss ts)) ∧ ∃ m, w' = w.drewN m := by
  have hl1 := h1.len
  have hl2 := h2.len
  have hn1 := h1.nb
  have hn2 := h2.nb
  by_cases hn : n1 = n2
  · subst hn
    have HL1 := Lib.hid hl1
    have HL2 := Lib.hid hl2
    clear hl1 hl2
    go_enter Try.func54, Try.ntmps54
    go_wp2
    go_loopw [13] (fun i wr => ∃ j m : Nat, j ≤ n1 ∧ i = .int .i64 j ∧ wr = w.drewN m ∧ Hid (ss.take j = ts.take j)) (fun i _ => n1 - (intOf i).toNat)
    case atStart => exact ⟨0, 0, Nat.zero_le _, rfl, rfl, by unfold Hid; simp⟩
    case round =>
      obtain ⟨j, m, hj, rfl, rfl, HT⟩ := hrel
      by_cases hlt : j < n1
      · obtain ⟨hk1, ad1, rfl, hab1, hc1, _⟩ := h1.at_ hlt
        obtain ⟨hk2, ad2, rfl, hab2, hc2, _⟩ := h2.at_ hlt
        by_cases he : ss[j] = ts[j]
        · have HE := Lib.hid he
          have hbq := beq_toList_true he
          clear he
          go_wp2
          go_quiet (fail)
          go_wp2
          go_roundw
          case rel =>
            refine ⟨j + 1, _, by omega, by go_num, by first | rfl | exact World.drewN_drewN _ _ _, ?_⟩
            unfold Hid
            rw [List.take_succ_eq_append_getElem hk1, List.take_succ_eq_append_getElem hk2, HT.out, HE.out]
          case measure => simp [intOf]; omega
        · have HF : Hid (eqSS ss ts = false) := by
            unfold Hid eqSS
            rw [decide_eq_false_iff_not]
            intro h; subst h; exact he rfl
          have hbq := beq_toList_false he
          clear he
          go_wp2
          go_quiet (fail)
          go_wp2
          go_ret
          exact ⟨ret_bool HF.out.symm, by first | exact ⟨_, rfl⟩ | exact ⟨_, World.drewN_drewN _ _ _⟩⟩
      · have HF : Hid (eqSS ss ts = true) := by
          unfold Hid eqSS
          rw [decide_eq_true_iff]
          have h := HT.out
          rw [List.take_of_length_le (by have := HL1.out; omega), List.take_of_length_le (by have := HL2.out; omega)] at h
          exact h
        go_wp2
        go_ret
        exact ⟨ret_bool HF.out.symm, by first | exact ⟨_, rfl⟩ | exact ⟨_, World.drewN_drewN _ _ _⟩⟩
  · have HF : Hid (eqSS ss ts = false) := by
      unfold Hid eqSS
      rw [decide_eq_false_iff_not]
      intro h; subst h; omega
    clear hl1 hl2
    go_enter Try.func54, Try.ntmps54
    go_wp2
    go_ret
    exact ⟨ret_bool HF.out.symm, ⟨0, rfl⟩⟩
def sameCard (d f d2 f2 : Int) (ss ts : List ByteArray) : Bool := (d == d2) && ((f == f2) && eqSS ss ts)
set_option maxHeartbeats 800000 in
theorem i_SameCard (d f d2 f2 : Int) (B : Nat) (A A2 : Option Addr) (n c n2 c2 : Nat) (ss ts : List ByteArray) (w : World) (hS : Strs w B A n ss) (hT : Strs w B A2 n2 ts) (hB : B ≤ w.heap.size) :
    Calls Try.prog 13 #[.agg #[.int .i64 d, .int .i64 f, .slice A n c], .agg #[.int .i64 d2, .int .i64 f2, .slice A2 n2 c2]] w fun e w' => e = .returned (.bool (sameCard d f d2 f2 ss ts)) ∧ Below w.heap.size w w' := by
  have hn := hS.nb
  have hn2 := hT.nb
  have hS2 := (hS.alloc hB (.cells #[.int .i64 d, .int .i64 f, .slice A n c] 26)).alloc (by simp; omega) (.cells #[.int .i64 d2, .int .i64 f2, .slice A2 n2 c2] 26)
  have hT2 := (hT.alloc hB (.cells #[.int .i64 d, .int .i64 f, .slice A n c] 26)).alloc (by simp; omega) (.cells #[.int .i64 d2, .int .i64 f2, .slice A2 n2 c2] 26)
  have arm := fun (W : World) (h1 : Strs W B A n ss) (h2 : Strs W B A2 n2 ts) => equal_str B A A2 n n2 c c2 ss ts W h1 h2
  have ARM := hide arm
  clear arm
  unfold sameCard
  cases h3 : (d == d2)
  · go_enter Try.func13, Try.ntmps13
    go_wp2
    go_ret
    exact ⟨rfl, bel⟩
  · cases h4 : (f == f2)
    · go_enter Try.func13, Try.ntmps13
      go_wp2
      go_ret
      exact ⟨rfl, bel⟩
    · go_enter Try.func13, Try.ntmps13
      go_wp2_with (go_at_call 54; refine (unhide ARM _ hS2 hT2).mono ?_; rintro e w' ⟨rfl, m, rfl⟩)
      go_ret
      exact ⟨ret_bool (by simp), bel⟩
end Go.Proofs.Ytccjedongkokoaa
namespace Go.Proofs.Ytccjedongkokoaa
set_option linter.unusedVariables false
set_option maxRecDepth 10000
theorem sameCard_iff {d f d2 f2 : Int} {ss ts : List ByteArray} : sameCard d f d2 f2 ss ts = true ↔ d = d2 ∧ f = f2 ∧ ss = ts := by
  unfold sameCard eqSS
  simp
theorem drew_cardOk {d f : Nat} {ss : List ByteArray} (hb : 1 ≤ d ∧ d ≤ 4 ∧ 1 ≤ f ∧ f ≤ 4 ∧ 1 ≤ ss.length ∧ ss.length ≤ 6) (h : ∀ x ∈ ss, Drew d f x) : cardOk d f ss = true := by
  have hall : ss.all (stripOf d f) = true := List.all_eq_true.2 fun x hx => by
    have hD := h x hx
    have hst := drew_strip hD hb.1 (by omega) hb.2.2.1 (by omega)
    obtain ⟨k1, k2, k3⟩ := hD
    unfold stripOf downOf forwardOf
    rw [hst, k1, k2]
    simp
  unfold cardOk
  rw [hall]
  simp [isStepsB, inB]
  omega
theorem sc_size {s : ByteArray} (h : isStrip s.data.toList = true) : s.size ≤ 16 := by
  unfold isStrip inB at h
  simp at h
  have : s.data.toList.length = s.size := by simp
  simp at this
  omega
theorem card_bounds {d f : Int} {ss : List ByteArray} (h : cardOk d f ss = true) : (1 ≤ d ∧ d ≤ 8 ∧ 1 ≤ f ∧ f ≤ 8) ∧ (1 ≤ ss.length ∧ ss.length ≤ 10) ∧ ∀ s ∈ ss, s.size ≤ 16 := by
  unfold cardOk at h
  simp only [Bool.and_eq_true, List.all_eq_true] at h
  obtain ⟨⟨h1, h2⟩, h3, h4⟩ := h
  have e1 := inB_iff'.1 h1
  have e2 := inB_iff'.1 h2
  have e3 := inB_iff'.1 h3
  refine ⟨⟨by omega, by omega, by omega, by omega⟩, ⟨by omega, by omega⟩, fun s hs => ?_⟩
  have hs2 := h4 s hs
  unfold stripOf downOf at hs2
  by_cases hi : isStrip s.data.toList = true
  · exact sc_size hi
  · rw [if_neg hi] at hs2
    simp at hs2
    omega
end Go.Proofs.Ytccjedongkokoaa
namespace Go.Proofs.Ytccjedongkokoaa
open Go.ChangeShapes Go.WideShapes Go.ChangeAt Go.RowKit
set_option linter.unusedVariables false
set_option maxRecDepth 10000
def sumL : List Int → Int
  | [] => 0
  | a :: l => a + sumL l
theorem sumL_take (a : List Int) (k : Nat) (ha : k < a.length) : sumL (a.take (k + 1)) = sumL (a.take k) + a[k] := by
  induction k generalizing a with
  | zero => match a, ha with | x :: l, _ => simp [sumL]
  | succ k ih =>
    match a, ha with
    | x :: l, ha => simp only [List.take_succ_cons, sumL, List.getElem_cons_succ]; rw [ih l (by simpa using ha)]; omega
theorem sumL_bd (a : List Int) (M : Int) (hM : 0 ≤ M) (ha : ∀ x ∈ a, -M ≤ x ∧ x ≤ M) : -(M * a.length) ≤ sumL a ∧ sumL a ≤ M * a.length := by
  induction a with
  | nil => simp [sumL]
  | cons x l ih =>
    have h1 := ih (fun z hz => ha z (List.mem_cons_of_mem _ hz))
    have h2 := ha x List.mem_cons_self
    simp only [sumL, List.length_cons]
    have h4 : M * ((l.length + 1 : Nat) : Int) = M * (l.length : Int) + M := by
      rw [show ((l.length + 1 : Nat) : Int) = (l.length : Int) + 1 by omega, Int.mul_add, Int.mul_one]
    rw [h4]
    generalize M * (l.length : Int) = q at *
    omega
def roomOf (s : List UInt8) : Int := if isStrip s = true then sumL (htsOf s) else -1
theorem roomOf_yes {s : List UInt8} (h : isStrip s = true) : roomOf s = sumL (htsOf s) := by unfold roomOf; rw [if_pos h]
theorem roomOf_no {s : List UInt8} (h : isStrip s = false) : roomOf s = -1 := by unfold roomOf; rw [if_neg (by rw [h]; simp)]
theorem roomOf_bd (s : List UInt8) : -128 ≤ roomOf s ∧ roomOf s ≤ 128 := by
  cases h : isStrip s
  · rw [roomOf_no h]; omega
  · rw [roomOf_yes h]
    obtain ⟨h1, h2⟩ := hts_strip h
    have := sumL_bd (htsOf s) 16 (by omega) h2
    omega
set_option maxHeartbeats 1600000 in
theorem s_RoomUnder (s : ByteArray) (w : World) (hs : s.size ≤ 16777216) :
    Calls Try.prog 53 #[.string s] w fun e w' => e = .returned (.int .i64 (roomOf s.data.toList)) ∧ Below w.heap.size w w' := by
  cases h1 : isStrip s.data.toList
  · have HP := Lib.hid (roomOf_no h1)
    go_enter Try.func53, Try.ntmps53
    go_wp2_with (first | (go_at_call 100; refine (s_IsStrip _ _ (by unfold maxLen; omega)).mono ?_; rw [h1]; rintro e w' ⟨rfl, rfl⟩))
    go_ret
    exact ⟨ret_int HP.out.symm, bel⟩
  · have HP := Lib.hid (roomOf_yes h1)
    obtain ⟨la, ba⟩ := hts_strip h1
    have hcon := fun (W : World) => s_l07Heights s W hs
    have HCON := hide hcon
    clear hcon
    generalize ea : htsOf s.data.toList = a at *
    generalize en : a.length = N at *
    have HA := Lib.hid en
    have BA := hide ba
    clear ea en ba
    go_enter Try.func53, Try.ntmps53
    go_wp2_with (first | (go_at_call 100; refine (s_IsStrip _ _ (by unfold maxLen; omega)).mono ?_; rw [h1]; rintro e w' ⟨rfl, rfl⟩))
    refine (unhide HCON _).mono ?_
    unfold FreshInts
    rw [HA.out]
    rintro e w1 ⟨A1, c1, rfl, ho1, hb1⟩
    have hR1 := Reads.of_own ho1
    have hz1 := hb1.size
    clear ho1
    go_wp2
    go_loopw [3, 5] (fun q i wr => ∃ k m : Nat, k ≤ N ∧ i = .int .i64 k ∧ q = .int .i64 (sumL (a.take k)) ∧ wr = w1.drewN m) (fun _ i _ => N - (intOf i).toNat)
    case atStart => exact ⟨0, 0, Nat.zero_le _, rfl, by simp [sumL], rfl⟩
    case round =>
      obtain ⟨k, m, hk, rfl, rfl, rfl⟩ := hrel
      by_cases hlt : k < N
      · obtain ⟨hk1, ad1, rfl, hab1, hc1⟩ := ints_at hR1 hlt
        have HS := Lib.hid (sumL_take a k hk1)
        have bax := unhide BA a[k] (List.getElem_mem hk1)
        have hbd := sumL_bd (a.take k) 16 (by omega) (fun x hx => unhide BA x (List.mem_of_mem_take hx))
        have htl : (a.take k).length ≤ k := List.length_take_le _ _
        obtain ⟨hbda, hbdb⟩ := hbd
        obtain ⟨baxa, baxb⟩ := bax
        have hs1 : -4096 ≤ sumL (a.take k) := by omega
        have hs2 : sumL (a.take k) ≤ 4096 := by omega
        clear hbda hbdb
        generalize ex : a[k] = x at *
        go_wp2
        go_roundw
        case rel => exact ⟨k + 1, m, by omega, by go_num, by rw [HS.out], rfl⟩
        case measure => simp [intOf]; omega
      · have hke : k = N := by omega
        have ta : a.take k = a := List.take_of_length_le (by have := HA.out; omega)
        rw [ta]
        clear ta
        subst hke
        go_wp2
        go_ret
        exact ⟨ret_int HP.out.symm, bel⟩
def volL : List ByteArray → Int
  | [] => 0
  | a :: l => roomOf a.data.toList + volL l
theorem volL_take (a : List ByteArray) (k : Nat) (ha : k < a.length) : volL (a.take (k + 1)) = volL (a.take k) + roomOf a[k].data.toList := by
  induction k generalizing a with
  | zero => match a, ha with | x :: l, _ => simp [volL]
  | succ k ih =>
    match a, ha with
    | x :: l, ha => simp only [List.take_succ_cons, volL, List.getElem_cons_succ]; rw [ih l (by simpa using ha)]; omega
theorem volL_bd (a : List ByteArray) : -(128 * (a.length : Int)) ≤ volL a ∧ volL a ≤ 128 * a.length := by
  induction a with
  | nil => simp [volL]
  | cons x l ih =>
    have h2 := roomOf_bd x.data.toList
    simp only [volL, List.length_cons]
    omega
def volOf (d f : Int) (ss : List ByteArray) : Int := if cardOk d f ss = true then volL ss else -1
set_option maxHeartbeats 1600000 in
theorem s_VolumeOf (d f : Int) (B : Nat) (A : Option Addr) (n c : Nat) (ss : List ByteArray) (w : World) (hS : Strs w B A n ss) (hB : B ≤ w.heap.size) :
    Calls Try.prog 12 #[.agg #[.int .i64 d, .int .i64 f, .slice A n c]] w fun e w' => e = .returned (.int .i64 (volOf d f ss)) ∧ Below w.heap.size w w' := by
  have hn := hS.nb
  have hS2 := hS.alloc hB (.cells #[.int .i64 d, .int .i64 f, .slice A n c] 26)
  have HL := Lib.hid hS.len
  cases hck : cardOk d f ss
  · have HP := Lib.hid (show volOf d f ss = -1 by unfold volOf; rw [if_neg (by rw [hck]; simp)])
    go_enter Try.func12, Try.ntmps12
    go_wp2_with (first | (go_at_call 51; refine (s_CardOk _ _ _ _ _ ss _ (hS2.more (by simp; omega))).mono ?_; rw [hck]; rintro e w1 ⟨rfl, hb1⟩; obtain ⟨hcb, hfb⟩ := bcell hb1; have hz_w1_0 : w.heap.size < w1.heap.size := (by have hzz := hb1.size; (try simp at hzz); omega); have hy_w1_0 := Nat.le_of_lt hz_w1_0))
    go_ret
    exact ⟨ret_int HP.out.symm, bel⟩
  · have HP := Lib.hid (show volOf d f ss = volL ss by unfold volOf; rw [if_pos hck])
    go_enter Try.func12, Try.ntmps12
    go_wp2_with (first | (go_at_call 51; refine (s_CardOk _ _ _ _ _ ss _ (hS2.more (by simp; omega))).mono ?_; rw [hck]; rintro e w1 ⟨rfl, hb1⟩; obtain ⟨hcb, hfb⟩ := bcell hb1; have hz_w1_0 : w.heap.size < w1.heap.size := (by have hzz := hb1.size; (try simp at hzz); omega); have hy_w1_0 := Nat.le_of_lt hz_w1_0))
    have hS3 := hS2.below (hb1.mono (by simp; omega))
    have hk1 := blk_next (blk_new w (.cells #[.int .i64 d, .int .i64 f, .slice A n c] 26)) hb1
    have hbw : Below w.heap.size w w1 := bel
    have hzz := hz_w1_0
    clear hcb hfb
    go_loopw [3, 4] (fun q i wr => ∃ k : Nat, k ≤ n ∧ i = .int .i64 k ∧ q = .int .i64 (volL (ss.take k)) ∧ Below w1.heap.size w1 wr) (fun _ i _ => n - (intOf i).toNat)
    case atStart => exact ⟨0, Nat.zero_le _, rfl, by simp [volL], Below.refl _ _⟩
    case round =>
      obtain ⟨k, hk, rfl, rfl, hb⟩ := hrel
      have hzr := hb.size
      obtain ⟨hx0, hx1, hx2, hxl⟩ := blk3 (blk_below hk1 hb (by omega))
      have hSr := hS3.below (hb.mono (by omega))
      by_cases hlt : k < n
      · obtain ⟨hks, ad, rfl, hab, hc1, hsz⟩ := hSr.at_ hlt
        have HS := Lib.hid (volL_take ss k hks)
        have hbd := volL_bd (ss.take k)
        have htl : (ss.take k).length ≤ k := List.length_take_le _ _
        have hbd2 := roomOf_bd ss[k].data.toList
        obtain ⟨hbda, hbdb⟩ := hbd
        obtain ⟨hbdc, hbdd⟩ := hbd2
        have hs1 : -2147483648 ≤ volL (ss.take k) := by omega
        have hs2 : volL (ss.take k) ≤ 2147483648 := by omega
        clear hbda hbdb
        go_wp2_with (first | (go_at_call 53; refine (s_RoomUnder _ _ hsz).mono ?_; rintro e w3 ⟨rfl, hb3⟩))
        go_roundw
        case rel => exact ⟨k + 1, by omega, by go_num, by rw [HS.out], bel⟩
        case measure => simp [intOf]; omega
      · have hke : k = n := by omega
        have ta : ss.take k = ss := List.take_of_length_le (by have := HL.out; omega)
        rw [ta]
        clear ta
        subst hke
        go_wp2
        go_ret
        exact ⟨ret_int HP.out.symm, hbw.trans (hb.mono (by omega))⟩
end Go.Proofs.Ytccjedongkokoaa
namespace Go.Proofs.Ytccjedongkokoaa
open Go.ChangeShapes Go.WideShapes Go.ChangeAt Go.RowKit
set_option linter.unusedVariables false
set_option maxRecDepth 10000
def mx (a b : List UInt8) (k : Nat) : Nat := max (cnt 102 (a.take k)) (cnt 102 (b.take k))
def mixAt (a b : List UInt8) (k : Nat) : UInt8 := if mx a b k < mx a b (k + 1) then 102 else 100
def mixL (a b : List UInt8) (n : Nat) : List UInt8 := (List.range n).map (mixAt a b)
def mixP (s t : ByteArray) (n : Nat) : ByteArray := ⟨(mixL s.data.toList t.data.toList n).toArray⟩
def mixB (s t : ByteArray) : ByteArray := if sameFrame s.data.toList t.data.toList = true then mixP s t s.size else ⟨#[]⟩
theorem sameFrame_len {s t : ByteArray} (h : sameFrame s.data.toList t.data.toList = true) : t.size = s.size ∧ s.size ≤ 16 := by
  unfold sameFrame at h
  simp only [Bool.and_eq_true, beq_iff_eq] at h
  have h1 := strip_len h.1.1
  have h2 := strip_len h.1.2
  have e1 : s.data.toList.length = s.size := by simp
  have e2 : t.data.toList.length = t.size := by simp
  omega
set_option maxHeartbeats 400000 in
theorem i_forwards (s : ByteArray) (v : Int) (k : Nat) (w : World) (hv : v = (k : Int)) (hk : k ≤ s.size) (hs : s.size ≤ 16777216) :
    Calls Try.prog 127 #[.string s, .int .i64 v] w fun e w' => e = .returned (.int .i64 (cnt 102 (s.data.toList.take k))) ∧ w = w' := by
  subst hv
  have he : (s.extract 0 k).data.toList = s.data.toList.take k := by
    simp [ByteArray.data_extract, Array.toList_extract, List.extract_eq_take_drop]
  go_enter Try.func127, Try.ntmps127
  go_wp2_with (go_at_call 126; refine (strCount _ _ _).mono ?_; rintro e w' ⟨rfl, rfl⟩)
  go_ret
  exact ⟨rfl, rfl⟩
end Go.Proofs.Ytccjedongkokoaa
namespace Go.Proofs.Ytccjedongkokoaa
set_option linter.unusedVariables false
set_option maxRecDepth 10000
def swpC (x : UInt8) : UInt8 := if x = 100 then 102 else 100
def turnL (l : List UInt8) : List UInt8 := (l.map swpC).reverse
def turnB (s : ByteArray) : ByteArray := if isStrip s.data.toList = true then ⟨(turnL s.data.toList).toArray⟩ else ⟨#[]⟩
def aboveL (a b : List UInt8) : Bool := sameFrame a b && (List.range (a.length + 1)).all (fun k => decide (cnt 102 (b.take k) ≤ cnt 102 (a.take k)))
def Let2 (l : List UInt8) : Prop := ∀ x ∈ l, x = 100 ∨ x = 102
theorem let2_of {l : List UInt8} (h : isStrip l = true) : Let2 l := strip_letter (strip_cnt h)
theorem let2_cnt {l : List UInt8} (h : Let2 l) : cnt 100 l + cnt 102 l = l.length := by
  induction l with
  | nil => rfl
  | cons x l ih =>
    have h1 := ih (fun y hy => h y (List.mem_cons_of_mem _ hy))
    have h2 := h x List.mem_cons_self
    unfold cnt at *
    simp only [List.count_cons, List.length_cons]
    rcases h2 with rfl | rfl <;> simp <;> omega
theorem cnt_cons (c x : UInt8) (l : List UInt8) : cnt c (x :: l) = cnt c l + if x = c then 1 else 0 := by
  unfold cnt; rw [List.count_cons]; by_cases h : x = c <;> simp [h]
def pairs : List UInt8 → Nat
  | [] => 0
  | c :: l => pairs l + if c = 102 then 0 else cnt 102 l
theorem sum_hts (u : Int) (l : List UInt8) : sumL (hts u l) = u * cnt 102 l - pairs l := by
  induction l generalizing u with
  | nil => simp [hts, sumL, pairs, cnt]
  | cons x l ih =>
    rw [cnt_cons]
    simp only [hts, pairs]
    by_cases h : x = 102
    · rw [if_pos h, if_pos h, if_pos h, sumL, ih]
      push_cast
      rw [Int.mul_add, Int.mul_one]
      omega
    · rw [if_neg h, if_neg h, if_neg h, ih, Int.sub_mul, Int.one_mul, Nat.add_zero]
      push_cast
      omega
theorem above_iff {a b : List UInt8} (h : sameFrame a b = true) : aboveL a b = true ↔ ∀ k, k ≤ a.length → cnt 102 (b.take k) ≤ cnt 102 (a.take k) := by
  unfold aboveL
  rw [h]
  simp only [Bool.true_and, List.all_eq_true, List.mem_range, decide_eq_true_eq]
  exact ⟨fun q k hk => q k (by omega), fun q k hk => q k (by omega)⟩
theorem frame_iff {a b : List UInt8} : sameFrame a b = true ↔ isStrip a = true ∧ isStrip b = true ∧ cnt 100 a = cnt 100 b ∧ cnt 102 a = cnt 102 b := by
  unfold sameFrame
  simp only [Bool.and_eq_true, beq_iff_eq]
  exact ⟨fun h => ⟨h.1.1, h.1.2, h.2.1, h.2.2⟩, fun h => ⟨⟨h.1, h.2.1⟩, h.2.2.1, h.2.2.2⟩⟩
theorem strips_of {d f : Int} {ss : List ByteArray} (h : cardOk d f ss = true) {s : ByteArray} (hs : s ∈ ss) : isStrip s.data.toList = true ∧ (cnt 100 s.data.toList : Int) = d ∧ (cnt 102 s.data.toList : Int) = f := by
  unfold cardOk at h
  simp only [Bool.and_eq_true, List.all_eq_true] at h
  have h1 := h.2.2 s hs
  have hd := inB_iff'.1 h.1.1
  unfold stripOf at h1
  simp only [Bool.and_eq_true, beq_iff_eq] at h1
  cases hq : isStrip s.data.toList
  · have e := h1.1
    unfold downOf at e
    rw [hq] at e
    simp at e
    omega
  · have e := h1.1
    have e2 := h1.2
    unfold downOf at e
    unfold forwardOf at e2
    rw [if_pos hq] at e e2
    exact ⟨rfl, e, e2⟩
theorem card_iff {d f : Int} {ss : List ByteArray} : cardOk d f ss = true ↔ (1 ≤ d ∧ d ≤ 8 ∧ 1 ≤ f ∧ f ≤ 8) ∧ (1 ≤ ss.length ∧ ss.length ≤ 10) ∧ ∀ s ∈ ss, isStrip s.data.toList = true ∧ (cnt 100 s.data.toList : Int) = d ∧ (cnt 102 s.data.toList : Int) = f := by
  constructor
  · intro h
    have hb := card_bounds h
    exact ⟨hb.1, hb.2.1, fun s hs => strips_of h hs⟩
  · rintro ⟨h1, h2, h3⟩
    unfold cardOk
    simp only [Bool.and_eq_true, List.all_eq_true]
    refine ⟨⟨inB_iff'.2 ⟨h1.1, h1.2.1⟩, inB_iff'.2 ⟨h1.2.2.1, h1.2.2.2⟩⟩, inB_iff'.2 ⟨by omega, by omega⟩, fun s hs => ?_⟩
    obtain ⟨q1, q2, q3⟩ := h3 s hs
    unfold stripOf downOf forwardOf
    rw [if_pos q1, if_pos q1]
    simp [q2, q3]
-- the strip above two strips
theorem eq_of_cnt {a b : List UInt8} (ha : Let2 a) (hb : Let2 b) (hl : a.length = b.length) (h : ∀ k, k ≤ a.length → cnt 102 (a.take k) = cnt 102 (b.take k)) : a = b := by
  apply List.ext_getElem hl
  intro k h1 h2
  have e1 := h k (by omega)
  have e2 := h (k + 1) (by omega)
  rw [List.take_succ_eq_append_getElem h1, List.take_succ_eq_append_getElem h2, cnt_snoc, cnt_snoc, e1] at e2
  have ha1 := ha _ (List.getElem_mem h1)
  have hb1 := hb _ (List.getElem_mem h2)
  by_cases q1 : a[k] = 102 <;> by_cases q2 : b[k] = 102
  · rw [q1, q2]
  · rw [if_pos q1, if_neg q2] at e2; omega
  · rw [if_neg q1, if_pos q2] at e2; omega
  · rw [ha1.resolve_right q1, hb1.resolve_right q2]
def begs : List UInt8 → Nat
  | [] => 0
  | c :: l => begs l + if c = 102 then l.length + 1 else 0
theorem begs_room {l : List UInt8} (h : Let2 l) : (begs l : Int) + pairs l + pairs l + begs l = (cnt 100 l : Int) * cnt 102 l + (cnt 100 l : Int) * cnt 102 l + (cnt 102 l : Int) * cnt 102 l + cnt 102 l := by
  induction l with
  | nil => rfl
  | cons x l ih =>
    have hl : Let2 l := fun y hy => h y (List.mem_cons_of_mem _ hy)
    have hc := let2_cnt hl
    have ih := ih hl
    rw [cnt_cons, cnt_cons, begs, pairs]
    have hz : (l.length : Int) = (cnt 100 l : Int) + (cnt 102 l : Int) := by omega
    rcases h x List.mem_cons_self with rfl | rfl
    · simp only [show ¬((100 : UInt8) = 102) by decide, if_neg, if_pos, not_false_eq_true]
      push_cast
      rw [Int.add_mul]
      simp only [Int.one_mul, Int.add_zero]
      generalize (cnt 100 l : Int) * (cnt 102 l : Int) = p at *
      generalize (cnt 102 l : Int) * (cnt 102 l : Int) = q at *
      omega
    · simp only [show ¬((102 : UInt8) = 100) by decide, if_neg, if_pos, not_false_eq_true]
      push_cast
      rw [hz]
      simp only [Int.add_mul, Int.mul_add, Int.one_mul, Int.mul_one, Int.add_zero]
      generalize (cnt 100 l : Int) * (cnt 102 l : Int) = p at *
      generalize (cnt 102 l : Int) * (cnt 102 l : Int) = q at *
      omega
def begT (l : List UInt8) (n : Nat) : Nat := match n with
  | 0 => 0
  | n + 1 => begT l n + cnt 102 (l.take (n + 1))
theorem begT_cons (c : UInt8) (l : List UInt8) (n : Nat) : begT (c :: l) (n + 1) = begT l n + if c = 102 then n + 1 else 0 := by
  induction n with
  | zero => simp only [begT, List.take_succ_cons, List.take_zero]; rw [cnt_cons]; simp [cnt]
  | succ n ih =>
    rw [begT, ih, List.take_succ_cons, cnt_cons, begT]
    split <;> omega
theorem begs_begT (l : List UInt8) : begs l = begT l l.length := by
  induction l with
  | nil => rfl
  | cons c l ih => rw [begs, ih, List.length_cons, begT_cons]
theorem begT_mono {a b : List UInt8} {n : Nat} (h : ∀ k, k ≤ n → cnt 102 (a.take k) ≤ cnt 102 (b.take k)) : begT a n ≤ begT b n := by
  induction n with
  | zero => exact Nat.le_refl _
  | succ n ih => rw [begT, begT]; have := ih (fun k hk => h k (by omega)); have := h (n + 1) (Nat.le_refl _); omega
theorem room_mono {s t : ByteArray} (h : sameFrame s.data.toList t.data.toList = true) (hc : ∀ k, k ≤ s.data.toList.length → cnt 102 (s.data.toList.take k) ≤ cnt 102 (t.data.toList.take k)) : roomOf s.data.toList ≤ roomOf t.data.toList := by
  obtain ⟨h1, h2, h3, h4⟩ := frame_iff.1 h
  have hl : t.data.toList.length = s.data.toList.length := by have := let2_cnt (let2_of h1); have := let2_cnt (let2_of h2); omega
  rw [roomOf_yes h1, roomOf_yes h2]
  unfold htsOf
  rw [sum_hts, sum_hts, ← h3, ← h4]
  have e1 := begs_room (let2_of h1)
  have e2 := begs_room (let2_of h2)
  have e3 := begT_mono hc
  rw [← begs_begT] at e3
  rw [← hl, ← begs_begT] at e3
  rw [← h3, ← h4] at e2
  generalize (cnt 100 s.data.toList : Int) * (cnt 102 s.data.toList : Int) = p at *
  generalize (cnt 102 s.data.toList : Int) * (cnt 102 s.data.toList : Int) = q at *
  omega
def symS (ss : List ByteArray) : List ByteArray := List.zipWith mixB ss ss.reverse
end Go.Proofs.Ytccjedongkokoaa
namespace Go.Proofs.Ytccjedongkokoaa
set_option linter.unusedVariables false
set_option linter.unusedSimpArgs false
set_option maxRecDepth 10000
def Way : ByteArray → List Int → ByteArray → Prop
  | s, [], t => s = t
  | s, k :: l, t => cornerB 100 s k = true ∧ Way (swapB s k) l t
theorem Way.snoc {s t : ByteArray} {l : List Int} {k : Int} (h : Way s l t) (hk : cornerB 100 t k = true) : Way s (l ++ [k]) (swapB t k) := by
  induction l generalizing s with
  | nil => subst h; exact ⟨hk, rfl⟩
  | cons x l ih => exact ⟨h.1, ih h.2⟩
theorem corner_strip {c : UInt8} {s : ByteArray} {k : Int} (h : cornerB c s k = true) : isStrip s.data.toList = true := by
  unfold cornerB at h
  simp only [Bool.and_eq_true] at h
  exact h.1.1
theorem valley_data {s : ByteArray} {k : Int} (h : cornerB 100 s k = true) : ∃ p q : List UInt8, s.data.toList = p ++ 100 :: 102 :: q ∧ (swapB s k).data.toList = p ++ 102 :: 100 :: q ∧ k = ((p.length + 1 : Nat) : Int) := by
  obtain ⟨p, q, a, b, e1, e2, e3, rfl, hb⟩ := swap_data h
  have hl := let2_of (corner_strip h)
  have hb2 := hl b (by rw [e1]; simp)
  obtain rfl : b = 102 := hb2.resolve_left hb
  exact ⟨p, q, by simpa using e1, by simpa using e3, e2⟩
theorem pairs_pre (p m m' : List UInt8) (h : cnt 102 m = cnt 102 m') : pairs (p ++ m) + pairs m' = pairs (p ++ m') + pairs m := by
  induction p with
  | nil => simp; omega
  | cons c l ih =>
    rw [List.cons_append, List.cons_append, pairs, pairs, cnt_app, cnt_app, h]
    omega
theorem room_swap {s : ByteArray} {k : Int} (h : cornerB 100 s k = true) : isStrip (swapB s k).data.toList = true ∧ roomOf (swapB s k).data.toList = roomOf s.data.toList + 1 ∧ cnt 100 (swapB s k).data.toList = cnt 100 s.data.toList ∧ cnt 102 (swapB s k).data.toList = cnt 102 s.data.toList := by
  have h1 := corner_strip h
  obtain ⟨p, q, e1, e2, _⟩ := valley_data h
  have c1 : cnt 100 (swapB s k).data.toList = cnt 100 s.data.toList := by rw [e1, e2, cnt_app, cnt_app, cnt_cons, cnt_cons, cnt_cons, cnt_cons]; simp
  have c2 : cnt 102 (swapB s k).data.toList = cnt 102 s.data.toList := by rw [e1, e2, cnt_app, cnt_app, cnt_cons, cnt_cons, cnt_cons, cnt_cons]; simp
  have h2 : isStrip (swapB s k).data.toList = true := by
    have hl : (swapB s k).data.toList.length = s.data.toList.length := by rw [e1, e2]; simp
    unfold isStrip at h1 ⊢
    rw [c1, c2, hl]
    exact h1
  refine ⟨h2, ?_, c1, c2⟩
  rw [roomOf_yes h2, roomOf_yes h1]
  unfold htsOf
  rw [sum_hts, sum_hts, c1, c2]
  have e := pairs_pre p (100 :: 102 :: q) (102 :: 100 :: q) (by rw [cnt_cons, cnt_cons, cnt_cons, cnt_cons]; simp)
  rw [← e1, ← e2] at e
  have p1 : pairs (100 :: 102 :: q) = pairs q + cnt 102 q + 1 := by simp [pairs, cnt_cons]; omega
  have p2 : pairs (102 :: 100 :: q) = pairs q + cnt 102 q := by simp [pairs]
  rw [p1, p2] at e
  omega
theorem Way.room {s t : ByteArray} {l : List Int} (h : Way s l t) : roomOf t.data.toList = roomOf s.data.toList + l.length := by
  induction l generalizing s with
  | nil => have h : s = t := h; subst h; simp
  | cons x l ih =>
    have e := ih h.2
    rw [(room_swap h.1).2.1] at e
    rw [e, List.length_cons]
    push_cast
    omega
theorem cnt_swap_take {s : ByteArray} {k : Int} (h : cornerB 100 s k = true) (j : Nat) : cnt 102 ((swapB s k).data.toList.take j) = cnt 102 (s.data.toList.take j) + if (j : Int) = k then 1 else 0 := by
  obtain ⟨p, q, e1, e2, e3⟩ := valley_data h
  rw [e1, e2, e3]
  have key : ∀ m : List UInt8, cnt 102 ((p ++ m).take j) = cnt 102 (p.take j) + cnt 102 (m.take (j - p.length)) := by
    intro m; rw [List.take_append, cnt_app]
  rw [key, key]
  by_cases h1 : j ≤ p.length
  · rw [show j - p.length = 0 by omega, if_neg (by omega)]
    simp
  · by_cases h2 : j = p.length + 1
    · subst h2
      rw [show p.length + 1 - p.length = 1 by omega, if_pos rfl]
      simp [cnt_cons, cnt]
    · obtain ⟨r, hr⟩ : ∃ r, j - p.length = r + 2 := ⟨j - p.length - 2, by omega⟩
      rw [hr, if_neg (by omega)]
      simp only [List.take_succ_cons]
      rw [cnt_cons, cnt_cons, cnt_cons, cnt_cons]
      simp
theorem frame_swap {s t : ByteArray} {k : Int} (hf : sameFrame t.data.toList s.data.toList = true) (h : cornerB 100 s k = true) : sameFrame t.data.toList (swapB s k).data.toList = true := by
  obtain ⟨h1, h2, h3, h4⟩ := frame_iff.1 hf
  obtain ⟨r1, _, r3, r4⟩ := room_swap h
  exact frame_iff.2 ⟨h1, r1, by omega, by omega⟩
theorem frame_len {a b : List UInt8} (h : sameFrame a b = true) : b.length = a.length := by
  obtain ⟨h1, h2, h3, h4⟩ := frame_iff.1 h
  have := let2_cnt (let2_of h1)
  have := let2_cnt (let2_of h2)
  omega
theorem corner_at {s : ByteArray} {m : Nat} (h : isStrip s.data.toList = true) (hm : m + 1 < s.data.toList.length) (h0 : s.data.toList[m] = 100) (h1 : s.data.toList[m + 1] = 102) : cornerB 100 s ((m + 1 : Nat) : Int) = true := by
  have hz : s.size = s.data.toList.length := by simp
  have e0 : chr s ((m + 1 : Nat) - 1 : Int) = 100 := by
    unfold chr
    rw [show (((m + 1 : Nat) : Int) - 1).toNat = m by omega, List.getD_eq_getElem?_getD, List.getElem?_eq_getElem (by omega)]
    exact h0
  have e1 : chr s ((m + 1 : Nat) : Int) = 102 := by
    unfold chr
    rw [Int.toNat_natCast, List.getD_eq_getElem?_getD, List.getElem?_eq_getElem hm]
    exact h1
  unfold cornerB cornerAny
  rw [h, e0, e1]
  simp only [Bool.true_and, Bool.and_eq_true]
  refine ⟨⟨inB_iff'.2 ⟨by omega, by omega⟩, by decide⟩, by decide⟩
theorem raise_from {s t : ByteArray} (hs : isStrip s.data.toList = true) (hab : ∀ k, cnt 102 (s.data.toList.take k) ≤ cnt 102 (t.data.toList.take k)) : ∀ (j : Nat) (hj : j < s.data.toList.length), s.data.toList[j] = 102 → cnt 102 (s.data.toList.take j) < cnt 102 (t.data.toList.take j) →
    ∃ k : Nat, k < s.data.toList.length ∧ cornerB 100 s (k : Int) = true ∧ cnt 102 (s.data.toList.take k) < cnt 102 (t.data.toList.take k)
  | 0, hj, h, hlt => by simp [cnt] at hlt
  | j + 1, hj, h, hlt => by
    have hl := let2_of hs
    rcases hl _ (List.getElem_mem (show j < s.data.toList.length by omega)) with h0 | h0
    · exact ⟨j + 1, hj, corner_at hs hj h0 h, hlt⟩
    · refine raise_from hs hab j (by omega) h0 ?_
      rw [List.take_succ_eq_append_getElem (show j < s.data.toList.length by omega), cnt_snoc, if_pos h0] at hlt
      have : cnt 102 (t.data.toList.take (j + 1)) ≤ cnt 102 (t.data.toList.take j) + 1 := by
        by_cases h2 : j < t.data.toList.length
        · rw [List.take_succ_eq_append_getElem h2, cnt_snoc]
          split <;> omega
        · rw [List.take_of_length_le (by omega), List.take_of_length_le (by omega)]
          omega
      omega
theorem cnt_take_mono (l : List UInt8) (j : Nat) : cnt 102 (l.take j) ≤ cnt 102 (l.take (j + 1)) := by
  by_cases h2 : j < l.length
  · rw [List.take_succ_eq_append_getElem h2, cnt_snoc]; omega
  · rw [List.take_of_length_le (by omega), List.take_of_length_le (by omega)]; exact Nat.le_refl _
theorem above_all {t s : ByteArray} (hf : sameFrame t.data.toList s.data.toList = true) (ha : aboveL t.data.toList s.data.toList = true) : ∀ k, cnt 102 (s.data.toList.take k) ≤ cnt 102 (t.data.toList.take k) := by
  intro k
  have hl := frame_len hf
  by_cases hk : k ≤ t.data.toList.length
  · exact (above_iff hf).1 ha k hk
  · rw [List.take_of_length_le (by omega), List.take_of_length_le (by omega)]
    have := (frame_iff.1 hf).2.2.2
    omega
theorem raise_ex {s t : ByteArray} (hf : sameFrame t.data.toList s.data.toList = true) (ha : aboveL t.data.toList s.data.toList = true) (hne : s ≠ t) :
    ∃ k : Nat, k < s.data.toList.length ∧ cornerB 100 s (k : Int) = true ∧ aboveL t.data.toList (swapB s (k : Int)).data.toList = true := by
  obtain ⟨ht, hs, h3, h4⟩ := frame_iff.1 hf
  have hl := frame_len hf
  have hab := above_all hf ha
  have hex : ∃ (j : Nat) (hj : j < s.data.toList.length), s.data.toList[j] = 102 ∧ cnt 102 (s.data.toList.take j) < cnt 102 (t.data.toList.take j) := by
    refine Classical.byContradiction fun hno => hne (ba_ext (eq_of_cnt (let2_of hs) (let2_of ht) hl fun k hk => ?_))
    refine Nat.le_antisymm (hab k) (Nat.le_of_not_lt fun hlt => ?_)
    have up : ∀ i, k + i ≤ s.data.toList.length → cnt 102 (s.data.toList.take (k + i)) < cnt 102 (t.data.toList.take (k + i)) := by
      intro i
      induction i with
      | zero => intro _; exact hlt
      | succ i ih =>
        intro hi
        have h1 := ih (by omega)
        have hjl : k + i < s.data.toList.length := by omega
        have hnf : s.data.toList[k + i] ≠ 102 := fun e => hno ⟨k + i, hjl, e, h1⟩
        have e1 : cnt 102 (s.data.toList.take (k + i + 1)) = cnt 102 (s.data.toList.take (k + i)) := by rw [List.take_succ_eq_append_getElem hjl, cnt_snoc, if_neg hnf]; omega
        have e2 := cnt_take_mono t.data.toList (k + i)
        rw [show k + (i + 1) = k + i + 1 by omega]
        omega
    have := up (s.data.toList.length - k) (by omega)
    rw [show k + (s.data.toList.length - k) = s.data.toList.length by omega, List.take_of_length_le (Nat.le_refl _), List.take_of_length_le (by omega)] at this
    omega
  obtain ⟨j, hj, e, hlt⟩ := hex
  obtain ⟨k, hk, hc, hlt2⟩ := raise_from hs hab j hj e hlt
  refine ⟨k, hk, hc, (above_iff (frame_swap hf hc)).2 fun i hi => ?_⟩
  rw [cnt_swap_take hc]
  have := hab i
  split
  · rename_i q
    have : i = k := by omega
    subst this
    omega
  · omega
end Go.Proofs.Ytccjedongkokoaa
