/- Contracts of the program's and the reference's functions (Flip1, Flip2, Box1, Box2). -/
import Derived.Lib.Strings
import Derived.WalkLawsBesides
import Derived.WalkSpells
import Derived.Test.YtlimlolciekimaaGreatDoorRows
import Derived.Test.YtlimlolciekimaaGreatDoorQAa
import Derived.Test.YtlimlolciekimaaGreatDoorQAb
namespace Go.Proofs.YtlimlolciekimaaGreatDoor
open Go.ChangeShapes Go.WideShapes Go.ChangeAt Go.RowKit
set_option linter.unusedVariables false
set_option maxRecDepth 10000
def chr (s : ByteArray) (k : Int) : UInt8 := s.data.toList.getD k.toNat 0
def cornerAny (s : ByteArray) (k : Int) : Bool := inB k 1 ((s.size : Int) - 1) && (chr s (k - 1) != chr s k)
def cornerB (c : UInt8) (s : ByteArray) (k : Int) : Bool := (isStrip s.data.toList && cornerAny s k) && (chr s (k - 1) == c)
def swapL (l : List UInt8) (k : Nat) : List UInt8 := ((l.take (k - 1) ++ (l.drop k).take 1) ++ (l.drop (k - 1)).take 1) ++ l.drop (k + 1)
def swapB (s : ByteArray) (k : Int) : ByteArray := ⟨(swapL s.data.toList k.toNat).toArray⟩
theorem inB_iff' {x a b : Int} : inB x a b = true ↔ a ≤ x ∧ x ≤ b := by simp [inB]
theorem chr_get (s : ByteArray) (K : Nat) (h : K < s.size) : chr s (K : Int) = s[K] := by
  unfold chr
  rw [Int.toNat_natCast, List.getD_eq_getElem?_getD, List.getElem?_eq_getElem (by simpa using h)]
  rfl
theorem neq_bytes (a b : UInt8) : (!((a.toNat : Int) == (b.toNat : Int))) = (a != b) := by
  by_cases h : a = b
  · subst h; simp
  · have h3 : ((a.toNat : Int) == (b.toNat : Int)) = false := by rw [beq_eq_false_iff_ne]; intro h2; exact h (UInt8.toNat_inj.1 (by omega))
    have h4 : (a == b) = false := by rw [beq_eq_false_iff_ne]; exact h
    rw [h3, bne, h4]
theorem eq_bytes (a b : UInt8) : ((a.toNat : Int) == (b.toNat : Int)) = (a == b) := by
  have h := neq_bytes a b
  rw [bne] at h
  exact Bool.not_inj h
theorem quiet_ex {P : Program} {f : FuncId} {args : Array Value} {w : World} {n : Nat} {v : Value}
    (h : Calls P f args (w.drewN n) fun e w' => e = .returned v ∧ ∃ m, w' = (w.drewN n).drewN m) : Calls P f args (w.drewN n) fun e w'' => e = .returned v ∧ ∃ m, w'' = w.drewN m :=
  h.mono fun _ _ ⟨he, m, hm⟩ => ⟨he, n + m, by rw [hm, World.drewN_drewN]⟩
set_option maxHeartbeats 800000 in
theorem s_l03Corner (s : ByteArray) (k : Int) (c : UInt8) (w : World) (hs : s.size ≤ 16777216) :
    Calls Tryz.prog 277 #[.string s, .int .i64 k, .int .u8 c.toNat] w fun e w' => e = .returned (.bool (cornerB c s k)) ∧ ∃ m, w' = w.drewN m := by
  have hw1 : IntKind.i64.wrap ((s.size : Int) - 1) = (s.size : Int) - 1 := by rw [IntWalk.i64_in _ (by omega)]
  have HW := hide hw1
  clear hw1
  have hq1 : ∀ W : World, Calls Tryz.prog 204 #[.string s] W fun e w' => e = .returned (.bool (isStrip s.data.toList)) ∧ W = w' := fun W => s_IsStrip s W (by unfold maxLen; omega)
  have hq2 : ∀ (W : World) (v : Int), v = (s.size : Int) - 1 → Calls Tryz.prog 95 #[.int .i64 k, .int .i64 1, .int .i64 v] W fun e w' => e = .returned (.bool (inB k 1 ((s.size : Int) - 1))) ∧ W = w' := fun W v hv => by rw [hv]; exact s_l01In _ _ _ _
  cases hi : isStrip s.data.toList
  · have HF : Hid (cornerB c s k = false) := by unfold Hid cornerB; rw [hi]; rfl
    rw [hi] at hq1
    have HQ1 := hide hq1
    clear hq1 hq2
    go_enter Tryz.func277, Tryz.ntmps277
    go_wp2
    go_quiet ((first | (go_at_call 204; first | exact quiet_left (unhide HQ1 _) | exact quiet_add_left (unhide HQ1 _))))
    go_wp2
    go_ret
    exact ⟨ret_bool HF.out.symm, by first | exact ⟨0, rfl⟩ | exact ⟨_, rfl⟩ | exact ⟨_, World.drewN_drewN _ _ _⟩⟩
  rw [hi] at hq1
  have HQ1 := hide hq1
  clear hq1
  cases hk : inB k 1 ((s.size : Int) - 1)
  · have HF : Hid (cornerB c s k = false) := by unfold Hid cornerB cornerAny; rw [hk, hi]; rfl
    rw [hk] at hq2
    have HQ2 := hide hq2
    clear hq2
    go_enter Tryz.func277, Tryz.ntmps277
    go_wp2
    go_quiet ((first | (go_at_call 204; first | exact quiet_left (unhide HQ1 _) | exact quiet_add_left (unhide HQ1 _)) | (go_at_call 95; first | exact quiet_left (unhide HQ2 _ _ (by first | with_reducible rfl | exact unhide HW)) | exact quiet_add_left (unhide HQ2 _ _ (by first | with_reducible rfl | exact unhide HW)))))
    go_wp2
    go_ret
    exact ⟨ret_bool HF.out.symm, by first | exact ⟨0, rfl⟩ | exact ⟨_, rfl⟩ | exact ⟨_, World.drewN_drewN _ _ _⟩⟩
  · rw [hk] at hq2
    have HQ2 := hide hq2
    clear hq2
    have hb := inB_iff'.1 hk
    obtain ⟨L, rfl⟩ := Int.eq_ofNat_of_zero_le (show 0 ≤ k by omega)
    obtain ⟨K, hKL⟩ : ∃ K, L = K + 1 := ⟨L - 1, by omega⟩
    have hL : L < s.size := by omega
    have hK : K < s.size := by omega
    have e1 : ((L : Int) - 1) = (K : Int) := by omega
    have w1 : IntKind.i64.wrap ((L : Int) - 1) = (K : Int) := by rw [e1, IntWalk.i64_in _ (by omega)]
    have HF : Hid (cornerB c s L = ((s[K] != s[L]) && (s[K] == c))) := by unfold Hid cornerB cornerAny; rw [hk, hi, e1, chr_get s K hK, chr_get s L hL]; rfl
    have hne := neq_bytes s[L] s[K]
    have heq := eq_bytes s[K] c
    have HKL := Lib.hid hKL
    clear hk hb hKL e1
    cases h1 : ((s[L].toNat : Int) == (s[K].toNat : Int)) <;>
    · rw [h1] at hne
      have HN := hide hne
      have HE := hide heq
      have hd : ((s[L].toNat : Int) != (s[K].toNat : Int)) = !((s[L].toNat : Int) == (s[K].toNat : Int)) := rfl
      rw [h1] at hd
      have hd2 := hd
      simp only [Bool.not_true, Bool.not_false] at hd2
      clear hne heq hd
      go_enter Tryz.func277, Tryz.ntmps277
      go_wp2
      go_quiet ((first | (go_at_call 204; first | exact quiet_left (unhide HQ1 _) | exact quiet_add_left (unhide HQ1 _)) | (go_at_call 95; first | exact quiet_left (unhide HQ2 _ _ (by first | with_reducible rfl | exact unhide HW)) | exact quiet_add_left (unhide HQ2 _ _ (by first | with_reducible rfl | exact unhide HW)))))
      go_wp2
      go_ret
      exact ⟨ret_bool (by rw [HF.out, ← unhide HE, bne_comm, ← unhide HN]; simp), by first | exact ⟨0, rfl⟩ | exact ⟨_, rfl⟩ | exact ⟨_, World.drewN_drewN _ _ _⟩⟩
set_option maxHeartbeats 400000 in
theorem s_IsMountain (s : ByteArray) (k : Int) (w : World) (hs : s.size ≤ 16777216) :
    Calls Tryz.prog 247 #[.string s, .int .i64 k] w fun e w' => e = .returned (.bool (cornerB 102 s k)) ∧ ∃ m, w' = w.drewN m := by
  go_enter Tryz.func247, Tryz.ntmps247
  go_wp2_with (go_at_call 277; refine (s_l03Corner s k 102 _ hs).mono ?_; rintro e w' ⟨rfl, m, rfl⟩)
  go_ret
  exact ⟨rfl, by first | exact ⟨0, rfl⟩ | exact ⟨_, rfl⟩ | exact ⟨_, World.drewN_drewN _ _ _⟩⟩
set_option maxHeartbeats 400000 in
theorem s_IsValley (s : ByteArray) (k : Int) (w : World) (hs : s.size ≤ 16777216) :
    Calls Tryz.prog 276 #[.string s, .int .i64 k] w fun e w' => e = .returned (.bool (cornerB 100 s k)) ∧ ∃ m, w' = w.drewN m := by
  go_enter Tryz.func276, Tryz.ntmps276
  go_wp2_with (go_at_call 277; refine (s_l03Corner s k 100 _ hs).mono ?_; rintro e w' ⟨rfl, m, rfl⟩)
  go_ret
  exact ⟨rfl, by first | exact ⟨0, rfl⟩ | exact ⟨_, rfl⟩ | exact ⟨_, World.drewN_drewN _ _ _⟩⟩
end Go.Proofs.YtlimlolciekimaaGreatDoor
namespace Go.Proofs.YtlimlolciekimaaGreatDoor
open Go.ChangeShapes Go.WideShapes Go.ChangeAt Go.RowKit
set_option linter.unusedVariables false
set_option maxRecDepth 10000
theorem swap_parts (s : ByteArray) (L K : Nat) (hKL : L = K + 1) (hL : L < s.size) :
    s.extract 0 K ++ s.extract L (L + 1) ++ s.extract K L ++ s.extract (L + 1) s.size = swapB s (L : Int) := by
  apply ba_ext
  subst hKL
  unfold swapB swapL
  have h : List.take (s.size - (K + 1 + 1)) (List.drop (K + 1 + 1) s.data.toList) = List.drop (K + 1 + 1) s.data.toList := List.take_of_length_le (by rw [List.length_drop]; simp)
  simp only [Int.toNat_natCast, ByteArray.data_append, Array.toList_append, ByteArray.data_extract, Array.toList_extract, List.extract_eq_take_drop]
  simp [h]
set_option maxHeartbeats 400000 in
theorem s_l10Swap (s : ByteArray) (L K : Nat) (w : World) (hs : s.size ≤ 16777216) (hKL : L = K + 1) (hL : L < s.size) :
    Calls Tryz.prog 245 #[.string s, .int .i64 L] w fun e w' => e = .returned (.string (swapB s (L : Int))) ∧ ∃ m, w' = w.drewN m := by
  have HP := Lib.hid (swap_parts s L K hKL hL)
  have hK : K < s.size := by omega
  have w1 : IntKind.i64.wrap ((L : Int) - 1) = (K : Int) := by rw [show (L : Int) - 1 = (K : Int) by omega, IntWalk.i64_in _ (by omega)]
  have w2 : IntKind.i64.wrap ((L : Int) + 1) = (L : Int) + 1 := by rw [IntWalk.i64_in _ (by omega)]
  have hle : K ≤ L := by omega
  have hle2 : L + 1 ≤ s.size := hL
  have HKL := Lib.hid hKL
  clear hKL
  go_enter Tryz.func245, Tryz.ntmps245
  go_wp2
  go_quiet (fail)
  go_wp2
  go_ret
  exact ⟨ret_str (by rw [← HP.out]), by first | exact ⟨0, rfl⟩ | exact ⟨_, rfl⟩ | exact ⟨_, World.drewN_drewN _ _ _⟩⟩
theorem cornerB_pos {c : UInt8} {s : ByteArray} {k : Int} (h : cornerB c s k = true) : ∃ L K : Nat, k = (L : Int) ∧ L = K + 1 ∧ L < s.size := by
  unfold cornerB cornerAny at h
  simp only [Bool.and_eq_true] at h
  have hb := inB_iff'.1 h.1.2.1
  exact ⟨k.toNat, k.toNat - 1, by omega, by omega, by omega⟩
def turnRes (c : UInt8) (s : ByteArray) (k : Int) : ByteArray := if cornerB c s k = true then swapB s k else s
end Go.Proofs.YtlimlolciekimaaGreatDoor
namespace Go.Proofs.YtlimlolciekimaaGreatDoor
open Go.ChangeShapes Go.WideShapes Go.ChangeAt Go.RowKit
set_option linter.unusedVariables false
set_option maxRecDepth 10000
def boxOk (d f : Int) (ss : List ByteArray) (n : Nat) (F L : Int) : Bool := (cardOk d f ss && inB F 0 L) && decide (L < (n : Int))
theorem boxOk_spec (d f : Int) (ss : List ByteArray) (n : Nat) (F L : Int) : boxOk d f ss n F L = ((cardOk d f ss && inB L 0 ((n : Int) - 1)) && inB F 0 L) := by
  unfold boxOk
  cases cardOk d f ss
  · rfl
  · have h : (inB F 0 L && decide (L < (n : Int))) = (inB L 0 ((n : Int) - 1) && inB F 0 L) := by
      rw [Bool.eq_iff_iff]
      simp only [Bool.and_eq_true, inB_iff, decide_eq_true_eq]
      omega
    simpa using h
def flips (at_ : Int) (ss : List ByteArray) (F j : Nat) : List ByteArray := ss.mapIdx fun i s => if F ≤ i ∧ i < F + j then swapB s at_ else s
def allC (c : UInt8) (at_ : Int) (ss : List ByteArray) (F j : Nat) : Bool := ((ss.drop F).take j).all fun s => cornerB c s at_
theorem flips_len (at_ : Int) (ss : List ByteArray) (F j : Nat) : (flips at_ ss F j).length = ss.length := by simp [flips]
theorem flips_zero (at_ : Int) (ss : List ByteArray) (F : Nat) : flips at_ ss F 0 = ss := by
  apply List.ext_getElem (by simp [flips])
  intro i h1 h2
  simp [flips]; intro h3 h4; omega
theorem flips_step (at_ : Int) (ss : List ByteArray) (F j : Nat) (h : F + j < ss.length) : (flips at_ ss F j).set (F + j) (swapB ss[F + j] at_) = flips at_ ss F (j + 1) := by
  apply List.ext_getElem (by simp [flips])
  intro i h1 h2
  rw [List.getElem_set]
  simp only [flips, List.getElem_mapIdx]
  by_cases hi : F + j = i
  · subst hi
    simp
  · rw [if_neg hi]
    by_cases h3 : F ≤ i ∧ i < F + j
    · rw [if_pos h3, if_pos (by omega)]
    · rw [if_neg h3, if_neg (by omega)]
theorem allC_zero (c : UInt8) (at_ : Int) (ss : List ByteArray) (F : Nat) : allC c at_ ss F 0 = true := by simp [allC]
theorem allC_step (c : UInt8) (at_ : Int) (ss : List ByteArray) (F j : Nat) (h : F + j < ss.length) : allC c at_ ss F (j + 1) = (allC c at_ ss F j && cornerB c ss[F + j] at_) := by
  unfold allC
  rw [List.take_succ_eq_append_getElem (by rw [List.length_drop]; omega), List.all_append]
  simp
theorem allC_stop {c : UInt8} {at_ : Int} {ss : List ByteArray} {F j m : Nat} (h : F + j < ss.length) (hj : j < m) (hc : cornerB c ss[F + j] at_ = false) : allC c at_ ss F m = false := by
  unfold allC
  rw [List.all_eq_false]
  refine ⟨ss[F + j], ?_, by simp [hc]⟩
  rw [List.mem_take_iff_getElem]
  exact ⟨j, by rw [List.length_drop]; omega, by simp⟩
theorem swapB_size {s : ByteArray} {at_ : Int} (h : s.size ≤ 16777216) {c : UInt8} (hc : cornerB c s at_ = true) : (swapB s at_).size = s.size := by
  obtain ⟨L, K, rfl, hKL, hL⟩ := cornerB_pos hc
  subst hKL
  have h1 : s.data.toList.length = s.size := by simp
  show (swapL s.data.toList _).toArray.size = s.size
  simp only [List.size_toArray, swapL, List.length_append, List.length_take, List.length_drop, Int.toNat_natCast, h1]
  omega
def boxRes (c : UInt8) (d f : Int) (ss : List ByteArray) (F L at_ : Int) : List ByteArray × Bool :=
  if boxOk d f ss ss.length F L = true ∧ allC c at_ ss F.toNat (L.toNat + 1 - F.toNat) = true then (flips at_ ss F.toNat (L.toNat + 1 - F.toNat), true) else (ss, false)
set_option maxHeartbeats 400000 in
theorem s_l11Range (d f : Int) (B : Nat) (A : Option Addr) (n c : Nat) (ss : List ByteArray) (F L T : Int) (w : World) (hS : Strs w B A n ss) (hB : B ≤ w.heap.size) :
    Calls Tryz.prog 246 #[.agg #[.int .i64 d, .int .i64 f, .slice A n c], .agg #[.int .i64 F, .int .i64 L, .int .i64 T]] w fun e w' => e = .returned (.bool (boxOk d f ss n F L)) ∧ Below w.heap.size w w' := by
  have hn := hS.nb
  have hS2 := (hS.alloc hB (.cells #[.int .i64 d, .int .i64 f, .slice A n c] 26)).alloc (by simp; omega) (.cells #[.int .i64 F, .int .i64 L, .int .i64 T] 165)
  rw [boxOk_spec]
  cases hc : cardOk d f ss <;> cases hk : inB L 0 ((n : Int) - 1) <;>
  · go_enter Tryz.func246, Tryz.ntmps246
    go_wp2_with (first | (go_at_call 97; refine (s_CardOk _ _ _ _ _ ss _ (hS2.more (by simp; omega))).mono ?_; rintro e w1 ⟨rfl, hb1⟩; obtain ⟨hcb, hfb⟩ := bcell hb1; have hz_w1_0 : w.heap.size < w1.heap.size := (by have hzz := hb1.size; (try simp at hzz); omega); have hy_w1_0 := Nat.le_of_lt hz_w1_0; have hz_w1_1 : w.heap.size + 1 < w1.heap.size := (by have hzz := hb1.size; (try simp at hzz); omega); have hy_w1_1 := Nat.le_of_lt hz_w1_1) | (go_at_call 95; refine (s_l01In _ _ _ _).mono ?_; rintro e w' ⟨rfl, rfl⟩))
    go_ret
    exact ⟨by simp, bel⟩
end Go.Proofs.YtlimlolciekimaaGreatDoor
namespace Go.Proofs.YtlimlolciekimaaGreatDoor
open Go.ChangeShapes Go.WideShapes Go.ChangeAt Go.RowKit
set_option linter.unusedVariables false
set_option maxRecDepth 10000
theorem flips_stepK (at_ : Int) (ss : List ByteArray) (F K : Nat) (hF : F ≤ K) (h : K < ss.length) : (flips at_ ss F (K - F)).set K (swapB ss[K] at_) = flips at_ ss F (K + 1 - F) := by
  obtain ⟨j, rfl⟩ : ∃ j, K = F + j := ⟨K - F, by omega⟩
  rw [show F + j - F = j by omega, show F + j + 1 - F = j + 1 by omega]
  exact flips_step at_ ss F j h
theorem allC_stepK {c : UInt8} {at_ : Int} {ss : List ByteArray} {F K : Nat} (hF : F ≤ K) (h : K < ss.length) (ha : allC c at_ ss F (K - F) = true) (hc : cornerB c ss[K] at_ = true) : allC c at_ ss F (K + 1 - F) = true := by
  obtain ⟨j, rfl⟩ : ∃ j, K = F + j := ⟨K - F, by omega⟩
  rw [show F + j - F = j by omega] at ha
  rw [show F + j + 1 - F = j + 1 by omega, allC_step c at_ ss F j h, ha, hc]; rfl
theorem allC_stopK {c : UInt8} {at_ : Int} {ss : List ByteArray} {F K m : Nat} (hF : F ≤ K) (h : K < ss.length) (hm : K < m) (hc : cornerB c ss[K] at_ = false) : allC c at_ ss F (m - F) = false := by
  obtain ⟨j, rfl⟩ : ∃ j, K = F + j := ⟨K - F, by omega⟩
  exact allC_stop h (by omega) hc
theorem boxRes_no {c : UInt8} {d f : Int} {ss : List ByteArray} {F L at_ : Int} (h : boxOk d f ss ss.length F L = false) : boxRes c d f ss F L at_ = (ss, false) := by
  unfold boxRes; rw [if_neg (by rw [h]; simp)]
theorem boxRes_stop {c : UInt8} {d f : Int} {ss : List ByteArray} {F L : Nat} {at_ : Int} (h : allC c at_ ss F (L + 1 - F) = false) : boxRes c d f ss F L at_ = (ss, false) := by
  unfold boxRes; simp only [Int.toNat_natCast]; rw [if_neg (by rw [h]; simp)]
theorem boxRes_yes {c : UInt8} {d f : Int} {ss : List ByteArray} {F L : Nat} {at_ : Int} (h0 : boxOk d f ss ss.length F L = true) (h : allC c at_ ss F (L + 1 - F) = true) : boxRes c d f ss F L at_ = (flips at_ ss F (L + 1 - F), true) := by
  unfold boxRes; simp only [Int.toNat_natCast]; rw [if_pos ⟨h0, h⟩]
theorem boxOk_iff {d f : Int} {ss : List ByteArray} {n : Nat} {F L : Int} (h : boxOk d f ss n F L = true) : 0 ≤ F ∧ F ≤ L ∧ L < (n : Int) := by
  unfold boxOk at h
  simp only [Bool.and_eq_true, inB_iff, decide_eq_true_eq] at h
  omega
theorem Strs.grown {w w' : World} {B n g : Nat} {A : Option Addr} {ss : List ByteArray} (h : Strs w B A n ss) (hg : w.grownBy w' (some g)) (hB : B ≤ g) (hw : B ≤ w.heap.size) : Strs w' B A n ss :=
  h.keep fun p hp => World.cell?_of_block (hg.block p.block (by omega) (by intro e; injection e; omega))
end Go.Proofs.YtlimlolciekimaaGreatDoor
