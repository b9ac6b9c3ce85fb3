/- The contracts of the corners and of RaiseAt, LowerAt of both packages. -/
import Derived.Test.YteffbjddgdjkmaaCard1
import Derived.Lib.Strings
import Derived.WalkSpells
import Derived.WalkLawsBesides
namespace Go.Proofs.Yteffbjddgdjkmaa
open Go.ChangeShapes Go.WideShapes Go.ChangeAt Go.RowKit
set_option linter.unusedVariables false
set_option maxRecDepth 10000

def chr (s : ByteArray) (k : Int) : UInt8 := s.data.toList.getD k.toNat 0
def cornerAny (s : ByteArray) (k : Int) : Bool := inB k 1 ((s.size : Int) - 1) && (chr s (k - 1) != chr s k)
def cornerB (c : UInt8) (s : ByteArray) (k : Int) : Bool := (isStrip s.data.toList && cornerAny s k) && (chr s (k - 1) == c)
def swapL (l : List UInt8) (k : Nat) : List UInt8 := ((l.take (k - 1) ++ (l.drop k).take 1) ++ (l.drop (k - 1)).take 1) ++ l.drop (k + 1)
def swapB (s : ByteArray) (k : Int) : ByteArray := ⟨(swapL s.data.toList k.toNat).toArray⟩
theorem inB_iff' {x a b : Int} : inB x a b = true ↔ a ≤ x ∧ x ≤ b := by simp [inB]
theorem chr_get (s : ByteArray) (K : Nat) (h : K < s.size) : chr s (K : Int) = s[K] := by
  unfold chr
  rw [Int.toNat_natCast, List.getD_eq_getElem?_getD, List.getElem?_eq_getElem (by simpa using h)]
  rfl
theorem neq_bytes (a b : UInt8) : (!((a.toNat : Int) == (b.toNat : Int))) = (a != b) := by
  by_cases h : a = b
  · subst h; simp
  · have h3 : ((a.toNat : Int) == (b.toNat : Int)) = false := by rw [beq_eq_false_iff_ne]; intro h2; exact h (UInt8.toNat_inj.1 (by omega))
    have h4 : (a == b) = false := by rw [beq_eq_false_iff_ne]; exact h
    rw [h3, bne, h4]
theorem eq_bytes (a b : UInt8) : ((a.toNat : Int) == (b.toNat : Int)) = (a == b) := by
  have h := neq_bytes a b
  rw [bne] at h
  exact Bool.not_inj h

theorem quiet_ex {P : Program} {f : FuncId} {args : Array Value} {w : World} {n : Nat} {v : Value}
    (h : Calls P f args (w.drewN n) fun e w' => e = .returned v ∧ ∃ m, w' = (w.drewN n).drewN m) : Calls P f args (w.drewN n) fun e w'' => e = .returned v ∧ ∃ m, w'' = w.drewN m :=
  h.mono fun _ _ ⟨he, m, hm⟩ => ⟨he, n + m, by rw [hm, World.drewN_drewN]⟩

set_option maxHeartbeats 400000 in
theorem i_isCorner (s : ByteArray) (k : Int) (w : World) (hs : s.size ≤ 16777216) :
    Calls Try.prog 185 #[.string s, .int .i64 k] w fun e w' => e = .returned (.bool (cornerAny s k)) ∧ ∃ m, w' = w.drewN m := by
  have hw1 : IntKind.i64.wrap ((s.size : Int) - 1) = (s.size : Int) - 1 := by rw [IntWalk.i64_in _ (by omega)]
  have hq1 : ∀ (W : World) (v : Int), v = (s.size : Int) - 1 → Calls Try.prog 81 #[.int .i64 k, .int .i64 1, .int .i64 v] W fun e w' => e = .returned (.bool (inB k 1 ((s.size : Int) - 1))) ∧ W = w' := fun W v hv => by rw [hv]; exact i_within _ _ _ _
  have HW := hide hw1
  clear hw1
  cases hk : inB k 1 ((s.size : Int) - 1)
  · have HF : Hid (cornerAny s k = false) := by unfold Hid cornerAny; rw [hk]; rfl
    rw [hk] at hq1
    have HQ1 := hide hq1
    clear hq1
    go_enter Try.func185, Try.ntmps185
    go_wp2
    go_quiet (((first | (go_at_call 81; first | exact quiet_left (unhide HQ1 _ _ (by first | with_reducible rfl | exact unhide HW)) | exact quiet_add_left (unhide HQ1 _ _ (by first | with_reducible rfl | exact unhide HW))))))
    go_wp2
    go_ret
    exact ⟨ret_bool HF.out.symm, by first | exact ⟨0, rfl⟩ | exact ⟨_, rfl⟩ | exact ⟨_, World.drewN_drewN _ _ _⟩⟩
  · rw [hk] at hq1
    have HQ1 := hide hq1
    clear hq1
    have hb := inB_iff'.1 hk
    obtain ⟨L, rfl⟩ := Int.eq_ofNat_of_zero_le (show 0 ≤ k by omega)
    obtain ⟨K, hKL⟩ : ∃ K, L = K + 1 := ⟨L - 1, by omega⟩
    have hL : L < s.size := by omega
    have hK : K < s.size := by omega
    have e1 : ((L : Int) - 1) = (K : Int) := by omega
    have w1 : IntKind.i64.wrap ((L : Int) - 1) = (K : Int) := by rw [e1, IntWalk.i64_in _ (by omega)]
    have HF : Hid (cornerAny s L = (s[K] != s[L])) := by unfold Hid cornerAny; rw [hk, e1, chr_get s K hK, chr_get s L hL]; rfl
    have HK := hide hk
    have HKL := Lib.hid hKL
    clear hk hb hKL e1
    go_enter Try.func185, Try.ntmps185
    go_wp2
    go_quiet (((first | (go_at_call 81; first | exact quiet_left (unhide HQ1 _ _ (by first | with_reducible rfl | exact unhide HW)) | exact quiet_add_left (unhide HQ1 _ _ (by first | with_reducible rfl | exact unhide HW))))))
    go_wp2
    go_ret
    exact ⟨ret_bool (by rw [HF.out]; exact neq_bytes _ _), by first | exact ⟨0, rfl⟩ | exact ⟨_, rfl⟩ | exact ⟨_, World.drewN_drewN _ _ _⟩⟩

set_option maxHeartbeats 400000 in
theorem i_IsMountain (s : ByteArray) (k : Int) (w : World) (hs : s.size ≤ 16777216) :
    Calls Try.prog 174 #[.string s, .int .i64 k] w fun e w' => e = .returned (.bool (cornerB 102 s k)) ∧ ∃ m, w' = w.drewN m := by
  have hq1 : ∀ W : World, Calls Try.prog 97 #[.string s] W fun e w' => e = .returned (.bool (isStrip s.data.toList)) ∧ W = w' := fun W => i_IsStrip s W (by unfold maxLen; omega)
  have hq2 : ∀ W : World, Calls Try.prog 185 #[.string s, .int .i64 k] W fun e w' => e = .returned (.bool (cornerAny s k)) ∧ ∃ m, w' = W.drewN m := fun W => i_isCorner s k W hs
  cases hi : isStrip s.data.toList
  · have HF : Hid (cornerB 102 s k = false) := by unfold Hid cornerB; rw [hi]; rfl
    rw [hi] at hq1
    have HQ1 := hide hq1
    clear hq1 hq2
    go_enter Try.func174, Try.ntmps174
    go_wp2_with (first | (go_at_call 97; refine (unhide HQ1 _).mono ?_; rintro e w' ⟨rfl, rfl⟩) | (go_at_call 185; refine (unhide HQ2 _).mono ?_; rintro e w' ⟨rfl, m, rfl⟩))
    go_ret
    exact ⟨ret_bool HF.out.symm, by first | exact ⟨0, rfl⟩ | exact ⟨_, rfl⟩ | exact ⟨_, World.drewN_drewN _ _ _⟩⟩
  rw [hi] at hq1
  have HQ1 := hide hq1
  clear hq1
  cases hk : cornerAny s k
  · have HF : Hid (cornerB 102 s k = false) := by unfold Hid cornerB; rw [hk, hi]; rfl
    rw [hk] at hq2
    have HQ2 := hide hq2
    clear hq2
    go_enter Try.func174, Try.ntmps174
    go_wp2_with (first | (go_at_call 97; refine (unhide HQ1 _).mono ?_; rintro e w' ⟨rfl, rfl⟩) | (go_at_call 185; refine (unhide HQ2 _).mono ?_; rintro e w' ⟨rfl, m, rfl⟩))
    go_ret
    exact ⟨ret_bool HF.out.symm, by first | exact ⟨0, rfl⟩ | exact ⟨_, rfl⟩ | exact ⟨_, World.drewN_drewN _ _ _⟩⟩
  · rw [hk] at hq2
    have HQ2 := hide hq2
    clear hq2
    have hb := inB_iff'.1 (show inB k 1 ((s.size : Int) - 1) = true by unfold cornerAny at hk; exact (Bool.and_eq_true_iff.1 hk).1)
    obtain ⟨L, rfl⟩ := Int.eq_ofNat_of_zero_le (show 0 ≤ k by omega)
    obtain ⟨K, hKL⟩ : ∃ K, L = K + 1 := ⟨L - 1, by omega⟩
    have hL : L < s.size := by omega
    have hK : K < s.size := by omega
    have e1 : ((L : Int) - 1) = (K : Int) := by omega
    have w1 : IntKind.i64.wrap ((L : Int) - 1) = (K : Int) := by rw [e1, IntWalk.i64_in _ (by omega)]
    have HF : Hid (cornerB 102 s L = (s[K] == (102 : UInt8))) := by unfold Hid cornerB; rw [hk, hi, e1, chr_get s K hK]; rfl
    have HKL := Lib.hid hKL
    clear hk hb hKL e1
    go_enter Try.func174, Try.ntmps174
    go_wp2_with (first | (go_at_call 97; refine (unhide HQ1 _).mono ?_; rintro e w' ⟨rfl, rfl⟩) | (go_at_call 185; refine (unhide HQ2 _).mono ?_; rintro e w' ⟨rfl, m, rfl⟩))
    go_ret
    exact ⟨ret_bool (by rw [HF.out]; exact eq_bytes s[K] 102), by first | exact ⟨0, rfl⟩ | exact ⟨_, rfl⟩ | exact ⟨_, World.drewN_drewN _ _ _⟩⟩

set_option maxHeartbeats 400000 in
theorem i_IsValley (s : ByteArray) (k : Int) (w : World) (hs : s.size ≤ 16777216) :
    Calls Try.prog 171 #[.string s, .int .i64 k] w fun e w' => e = .returned (.bool (cornerB 100 s k)) ∧ ∃ m, w' = w.drewN m := by
  have hq1 : ∀ W : World, Calls Try.prog 97 #[.string s] W fun e w' => e = .returned (.bool (isStrip s.data.toList)) ∧ W = w' := fun W => i_IsStrip s W (by unfold maxLen; omega)
  have hq2 : ∀ W : World, Calls Try.prog 185 #[.string s, .int .i64 k] W fun e w' => e = .returned (.bool (cornerAny s k)) ∧ ∃ m, w' = W.drewN m := fun W => i_isCorner s k W hs
  cases hi : isStrip s.data.toList
  · have HF : Hid (cornerB 100 s k = false) := by unfold Hid cornerB; rw [hi]; rfl
    rw [hi] at hq1
    have HQ1 := hide hq1
    clear hq1 hq2
    go_enter Try.func171, Try.ntmps171
    go_wp2_with (first | (go_at_call 97; refine (unhide HQ1 _).mono ?_; rintro e w' ⟨rfl, rfl⟩) | (go_at_call 185; refine (unhide HQ2 _).mono ?_; rintro e w' ⟨rfl, m, rfl⟩))
    go_ret
    exact ⟨ret_bool HF.out.symm, by first | exact ⟨0, rfl⟩ | exact ⟨_, rfl⟩ | exact ⟨_, World.drewN_drewN _ _ _⟩⟩
  rw [hi] at hq1
  have HQ1 := hide hq1
  clear hq1
  cases hk : cornerAny s k
  · have HF : Hid (cornerB 100 s k = false) := by unfold Hid cornerB; rw [hk, hi]; rfl
    rw [hk] at hq2
    have HQ2 := hide hq2
    clear hq2
    go_enter Try.func171, Try.ntmps171
    go_wp2_with (first | (go_at_call 97; refine (unhide HQ1 _).mono ?_; rintro e w' ⟨rfl, rfl⟩) | (go_at_call 185; refine (unhide HQ2 _).mono ?_; rintro e w' ⟨rfl, m, rfl⟩))
    go_ret
    exact ⟨ret_bool HF.out.symm, by first | exact ⟨0, rfl⟩ | exact ⟨_, rfl⟩ | exact ⟨_, World.drewN_drewN _ _ _⟩⟩
  · rw [hk] at hq2
    have HQ2 := hide hq2
    clear hq2
    have hb := inB_iff'.1 (show inB k 1 ((s.size : Int) - 1) = true by unfold cornerAny at hk; exact (Bool.and_eq_true_iff.1 hk).1)
    obtain ⟨L, rfl⟩ := Int.eq_ofNat_of_zero_le (show 0 ≤ k by omega)
    obtain ⟨K, hKL⟩ : ∃ K, L = K + 1 := ⟨L - 1, by omega⟩
    have hL : L < s.size := by omega
    have hK : K < s.size := by omega
    have e1 : ((L : Int) - 1) = (K : Int) := by omega
    have w1 : IntKind.i64.wrap ((L : Int) - 1) = (K : Int) := by rw [e1, IntWalk.i64_in _ (by omega)]
    have HF : Hid (cornerB 100 s L = (s[K] == (100 : UInt8))) := by unfold Hid cornerB; rw [hk, hi, e1, chr_get s K hK]; rfl
    have HKL := Lib.hid hKL
    clear hk hb hKL e1
    go_enter Try.func171, Try.ntmps171
    go_wp2_with (first | (go_at_call 97; refine (unhide HQ1 _).mono ?_; rintro e w' ⟨rfl, rfl⟩) | (go_at_call 185; refine (unhide HQ2 _).mono ?_; rintro e w' ⟨rfl, m, rfl⟩))
    go_ret
    exact ⟨ret_bool (by rw [HF.out]; exact eq_bytes s[K] 100), by first | exact ⟨0, rfl⟩ | exact ⟨_, rfl⟩ | exact ⟨_, World.drewN_drewN _ _ _⟩⟩

set_option maxHeartbeats 800000 in
theorem s_l03Corner (s : ByteArray) (k : Int) (c : UInt8) (w : World) (hs : s.size ≤ 16777216) :
    Calls Try.prog 172 #[.string s, .int .i64 k, .int .u8 c.toNat] w fun e w' => e = .returned (.bool (cornerB c s k)) ∧ ∃ m, w' = w.drewN m := by
  have hw1 : IntKind.i64.wrap ((s.size : Int) - 1) = (s.size : Int) - 1 := by rw [IntWalk.i64_in _ (by omega)]
  have HW := hide hw1
  clear hw1
  have hq1 : ∀ W : World, Calls Try.prog 85 #[.string s] W fun e w' => e = .returned (.bool (isStrip s.data.toList)) ∧ W = w' := fun W => s_IsStrip s W (by unfold maxLen; omega)
  have hq2 : ∀ (W : World) (v : Int), v = (s.size : Int) - 1 → Calls Try.prog 93 #[.int .i64 k, .int .i64 1, .int .i64 v] W fun e w' => e = .returned (.bool (inB k 1 ((s.size : Int) - 1))) ∧ W = w' := fun W v hv => by rw [hv]; exact s_l01In _ _ _ _
  cases hi : isStrip s.data.toList
  · have HF : Hid (cornerB c s k = false) := by unfold Hid cornerB; rw [hi]; rfl
    rw [hi] at hq1
    have HQ1 := hide hq1
    clear hq1 hq2
    go_enter Try.func172, Try.ntmps172
    go_wp2
    go_quiet ((first | (go_at_call 85; first | exact quiet_left (unhide HQ1 _) | exact quiet_add_left (unhide HQ1 _))))
    go_wp2
    go_ret
    exact ⟨ret_bool HF.out.symm, by first | exact ⟨0, rfl⟩ | exact ⟨_, rfl⟩ | exact ⟨_, World.drewN_drewN _ _ _⟩⟩
  rw [hi] at hq1
  have HQ1 := hide hq1
  clear hq1
  cases hk : inB k 1 ((s.size : Int) - 1)
  · have HF : Hid (cornerB c s k = false) := by unfold Hid cornerB cornerAny; rw [hk, hi]; rfl
    rw [hk] at hq2
    have HQ2 := hide hq2
    clear hq2
    go_enter Try.func172, Try.ntmps172
    go_wp2
    go_quiet ((first | (go_at_call 85; first | exact quiet_left (unhide HQ1 _) | exact quiet_add_left (unhide HQ1 _)) | (go_at_call 93; first | exact quiet_left (unhide HQ2 _ _ (by first | with_reducible rfl | exact unhide HW)) | exact quiet_add_left (unhide HQ2 _ _ (by first | with_reducible rfl | exact unhide HW)))))
    go_wp2
    go_ret
    exact ⟨ret_bool HF.out.symm, by first | exact ⟨0, rfl⟩ | exact ⟨_, rfl⟩ | exact ⟨_, World.drewN_drewN _ _ _⟩⟩
  · rw [hk] at hq2
    have HQ2 := hide hq2
    clear hq2
    have hb := inB_iff'.1 hk
    obtain ⟨L, rfl⟩ := Int.eq_ofNat_of_zero_le (show 0 ≤ k by omega)
    obtain ⟨K, hKL⟩ : ∃ K, L = K + 1 := ⟨L - 1, by omega⟩
    have hL : L < s.size := by omega
    have hK : K < s.size := by omega
    have e1 : ((L : Int) - 1) = (K : Int) := by omega
    have w1 : IntKind.i64.wrap ((L : Int) - 1) = (K : Int) := by rw [e1, IntWalk.i64_in _ (by omega)]
    have HF : Hid (cornerB c s L = ((s[K] != s[L]) && (s[K] == c))) := by unfold Hid cornerB cornerAny; rw [hk, hi, e1, chr_get s K hK, chr_get s L hL]; rfl
    have hne := neq_bytes s[L] s[K]
    have heq := eq_bytes s[K] c
    have HKL := Lib.hid hKL
    clear hk hb hKL e1
    cases h1 : ((s[L].toNat : Int) == (s[K].toNat : Int)) <;>
    · rw [h1] at hne
      have HN := hide hne
      have HE := hide heq
      have hd : ((s[L].toNat : Int) != (s[K].toNat : Int)) = !((s[L].toNat : Int) == (s[K].toNat : Int)) := rfl
      rw [h1] at hd
      have hd2 := hd
      simp only [Bool.not_true, Bool.not_false] at hd2
      clear hne heq hd
      go_enter Try.func172, Try.ntmps172
      go_wp2
      go_quiet ((first | (go_at_call 85; first | exact quiet_left (unhide HQ1 _) | exact quiet_add_left (unhide HQ1 _)) | (go_at_call 93; first | exact quiet_left (unhide HQ2 _ _ (by first | with_reducible rfl | exact unhide HW)) | exact quiet_add_left (unhide HQ2 _ _ (by first | with_reducible rfl | exact unhide HW)))))
      go_wp2
      go_ret
      exact ⟨ret_bool (by rw [HF.out, ← unhide HE, bne_comm, ← unhide HN]; simp), by first | exact ⟨0, rfl⟩ | exact ⟨_, rfl⟩ | exact ⟨_, World.drewN_drewN _ _ _⟩⟩

set_option maxHeartbeats 400000 in
theorem s_IsMountain (s : ByteArray) (k : Int) (w : World) (hs : s.size ≤ 16777216) :
    Calls Try.prog 227 #[.string s, .int .i64 k] w fun e w' => e = .returned (.bool (cornerB 102 s k)) ∧ ∃ m, w' = w.drewN m := by
  go_enter Try.func227, Try.ntmps227
  go_wp2_with (go_at_call 172; refine (s_l03Corner s k 102 _ hs).mono ?_; rintro e w' ⟨rfl, m, rfl⟩)
  go_ret
  exact ⟨rfl, by first | exact ⟨0, rfl⟩ | exact ⟨_, rfl⟩ | exact ⟨_, World.drewN_drewN _ _ _⟩⟩

set_option maxHeartbeats 400000 in
theorem s_IsValley (s : ByteArray) (k : Int) (w : World) (hs : s.size ≤ 16777216) :
    Calls Try.prog 122 #[.string s, .int .i64 k] w fun e w' => e = .returned (.bool (cornerB 100 s k)) ∧ ∃ m, w' = w.drewN m := by
  go_enter Try.func122, Try.ntmps122
  go_wp2_with (go_at_call 172; refine (s_l03Corner s k 100 _ hs).mono ?_; rintro e w' ⟨rfl, m, rfl⟩)
  go_ret
  exact ⟨rfl, by first | exact ⟨0, rfl⟩ | exact ⟨_, rfl⟩ | exact ⟨_, World.drewN_drewN _ _ _⟩⟩

set_option maxHeartbeats 400000 in
theorem i_CanRaise (s : ByteArray) (k : Int) (w : World) (hs : s.size ≤ 16777216) :
    Calls Try.prog 121 #[.string s, .int .i64 k] w fun e w' => e = .returned (.bool (cornerB 100 s k)) ∧ ∃ m, w' = w.drewN m := by
  go_enter Try.func121, Try.ntmps121
  go_wp2_with (go_at_call 171; refine (i_IsValley s k _ hs).mono ?_; rintro e w' ⟨rfl, m, rfl⟩)
  go_ret
  exact ⟨rfl, by first | exact ⟨0, rfl⟩ | exact ⟨_, rfl⟩ | exact ⟨_, World.drewN_drewN _ _ _⟩⟩
end Go.Proofs.Yteffbjddgdjkmaa
