/- The contracts of CountFolds of both packages. -/
import Derived.Test.YteffbjddgdjkmaaFold1
import Derived.Deep.QuietTactic
import Derived.BigQuiet
import Derived.Deep.DeepCutAuto
namespace Go.Proofs.Yteffbjddgdjkmaa
open Go.ChangeShapes Go.WideShapes Go.ChangeAt Go.RowKit
set_option linter.unusedVariables false
set_option linter.unusedSimpArgs false
set_option maxRecDepth 10000

theorem folds_yes {s : ByteArray} {L : Nat} {a b : Int} (hi : isStrip s.data.toList = true) (hL : s.size = L + 1) (h0 : (if s[0]'(by omega) = 102 then (1 : Int) else 0) = a) (h1 : (if s[L]'(by omega) = 100 then (1 : Int) else 0) = b) : foldsOf s = (cornN s s.size : Int) + a + b := by
  unfold foldsOf
  rw [if_pos hi]
  have e0 : chr s 0 = s[0]'(by omega) := chr_get s 0 (by omega)
  have e1 : chr s ((s.size : Int) - 1) = s[L]'(by omega) := by rw [show (s.size : Int) - 1 = (L : Int) by omega]; exact chr_get s L (by omega)
  rw [e0, e1, h0, h1]
set_option maxHeartbeats 1600000 in
theorem i_CountFolds (s : ByteArray) (w : World) (hs : s.size ≤ 16777216) :
    Calls Try.prog 82 #[.string s] w fun e w' => e = .returned (.int .i64 (foldsOf s)) ∧ Below w.heap.size w w' := by
  have hq1 : ∀ W : World, Calls Try.prog 97 #[.string s] W fun e w' => e = .returned (.bool (isStrip s.data.toList)) ∧ W = w' := fun W => i_IsStrip s W (by unfold maxLen; omega)
  have hq2 : ∀ W : World, Calls Try.prog 145 #[.string s] W fun e w' => ∃ A c, e = .returned (.slice A (cornL s) c) ∧ Below W.heap.size W w' := fun W => i_CornersOf s W hs
  cases hi : isStrip s.data.toList
  · rw [hi] at hq1
    have HQ1 := hide hq1
    have HR : Hid (foldsOf s = -1) := by unfold Hid foldsOf; rw [hi]; rfl
    clear hq1 hq2 hi
    go_enter Try.func82, Try.ntmps82
    go_wp2_with (go_at_call 97; refine (unhide HQ1 _).mono ?_; rintro e w' ⟨rfl, rfl⟩)
    go_ret
    exact ⟨ret_int HR.out.symm, Below.refl _ _⟩
  · have hp := strip_pos hi
    have hc : cornL s = cornN s s.size := by unfold cornL; rw [hi]; rfl
    have hcl := cornN_le s s.size
    rw [hi] at hq1
    rw [hc] at hq2
    have HQ1 := hide hq1
    have HQ2 := hide hq2
    clear hq1 hq2 hc
    obtain ⟨L, hL⟩ : ∃ L, s.size = L + 1 := ⟨s.size - 1, by omega⟩
    have hLs : L < s.size := by omega
    have h0s : 0 < s.size := by omega
    have e1 : ((s.size : Int) - 1) = (L : Int) := by omega
    have w1 : IntKind.i64.wrap ((s.size : Int) - 1) = (L : Int) := by rw [e1, IntWalk.i64_in _ (by omega)]
    have hi1 : (L : Int) < (s.size : Int) := by omega
    have hi2 : (0 : Int) < (s.size : Int) := by omega
    have hN : cornN s s.size ≤ 16777216 := by omega
    generalize hNN : cornN s s.size = N at *
    by_cases ha : s[0] = 102
    · have hb1 : ((s[0].toNat : Int) == 102) = true := by rw [ha]; rfl
      by_cases hb' : s[L] = 100
      · have hb2 : ((s[L].toNat : Int) == 100) = true := by rw [hb']; rfl
        have HR := Lib.hid (folds_yes hi hL (if_pos ha) (if_pos hb'))
        clear ha hb' hi hL e1
        rw [hNN] at HR
        clear hNN
        go_enter Try.func82, Try.ntmps82
        go_wp2_with (first | (go_at_call 97; refine (unhide HQ1 _).mono ?_; rintro e w' ⟨rfl, rfl⟩) | (go_at_call 145; refine (unhide HQ2 _).mono ?_; rintro e w2 ⟨A2, c2, rfl, hb2⟩))
        go_ret
        exact ⟨ret_int (by rw [HR.out]; try omega), hb2⟩
      · have hb2 : ((s[L].toNat : Int) == 100) = false := by rw [beq_eq_false_iff_ne]; intro h; apply hb'; apply UInt8.toNat_inj.1; show _ = 100; omega
        have HR := Lib.hid (folds_yes hi hL (if_pos ha) (if_neg hb'))
        clear ha hb' hi hL e1
        rw [hNN] at HR
        clear hNN
        go_enter Try.func82, Try.ntmps82
        go_wp2_with (first | (go_at_call 97; refine (unhide HQ1 _).mono ?_; rintro e w' ⟨rfl, rfl⟩) | (go_at_call 145; refine (unhide HQ2 _).mono ?_; rintro e w2 ⟨A2, c2, rfl, hb2⟩))
        go_ret
        exact ⟨ret_int (by rw [HR.out]; try omega), hb2⟩
    · have hb1 : ((s[0].toNat : Int) == 102) = false := by rw [beq_eq_false_iff_ne]; intro h; apply ha; apply UInt8.toNat_inj.1; show _ = 102; omega
      by_cases hb' : s[L] = 100
      · have hb2 : ((s[L].toNat : Int) == 100) = true := by rw [hb']; rfl
        have HR := Lib.hid (folds_yes hi hL (if_neg ha) (if_pos hb'))
        clear ha hb' hi hL e1
        rw [hNN] at HR
        clear hNN
        go_enter Try.func82, Try.ntmps82
        go_wp2_with (first | (go_at_call 97; refine (unhide HQ1 _).mono ?_; rintro e w' ⟨rfl, rfl⟩) | (go_at_call 145; refine (unhide HQ2 _).mono ?_; rintro e w2 ⟨A2, c2, rfl, hb2⟩))
        go_ret
        exact ⟨ret_int (by rw [HR.out]; try omega), hb2⟩
      · have hb2 : ((s[L].toNat : Int) == 100) = false := by rw [beq_eq_false_iff_ne]; intro h; apply hb'; apply UInt8.toNat_inj.1; show _ = 100; omega
        have HR := Lib.hid (folds_yes hi hL (if_neg ha) (if_neg hb'))
        clear ha hb' hi hL e1
        rw [hNN] at HR
        clear hNN
        go_enter Try.func82, Try.ntmps82
        go_wp2_with (first | (go_at_call 97; refine (unhide HQ1 _).mono ?_; rintro e w' ⟨rfl, rfl⟩) | (go_at_call 145; refine (unhide HQ2 _).mono ?_; rintro e w2 ⟨A2, c2, rfl, hb2⟩))
        go_ret
        exact ⟨ret_int (by rw [HR.out]; try omega), hb2⟩
set_option maxHeartbeats 1600000 in
theorem s_CountFolds (s : ByteArray) (w : World) (hs : s.size ≤ 16777216) :
    Calls Try.prog 15 #[.string s] w fun e w' => e = .returned (.int .i64 (foldsOf s)) ∧ Below w.heap.size w w' := by
  have hq1 : ∀ W : World, Calls Try.prog 85 #[.string s] W fun e w' => e = .returned (.bool (isStrip s.data.toList)) ∧ W = w' := fun W => s_IsStrip s W (by unfold maxLen; omega)
  have hq2 : ∀ W : World, Calls Try.prog 86 #[.string s] W fun e w' => ∃ A c, e = .returned (.slice A (cornL s) c) ∧ Below W.heap.size W w' := fun W => s_CornersOf s W hs
  cases hi : isStrip s.data.toList
  · rw [hi] at hq1
    have HQ1 := hide hq1
    have HR : Hid (foldsOf s = -1) := by unfold Hid foldsOf; rw [hi]; rfl
    clear hq1 hq2 hi
    go_enter Try.func15, Try.ntmps15
    go_wp2_with (go_at_call 85; refine (unhide HQ1 _).mono ?_; rintro e w' ⟨rfl, rfl⟩)
    go_ret
    exact ⟨ret_int HR.out.symm, Below.refl _ _⟩
  · have hp := strip_pos hi
    have hc : cornL s = cornN s s.size := by unfold cornL; rw [hi]; rfl
    have hcl := cornN_le s s.size
    rw [hi] at hq1
    rw [hc] at hq2
    have HQ1 := hide hq1
    have HQ2 := hide hq2
    clear hq1 hq2 hc
    obtain ⟨L, hL⟩ : ∃ L, s.size = L + 1 := ⟨s.size - 1, by omega⟩
    have hLs : L < s.size := by omega
    have h0s : 0 < s.size := by omega
    have e1 : ((s.size : Int) - 1) = (L : Int) := by omega
    have w1 : IntKind.i64.wrap ((s.size : Int) - 1) = (L : Int) := by rw [e1, IntWalk.i64_in _ (by omega)]
    have hi1 : (L : Int) < (s.size : Int) := by omega
    have hi2 : (0 : Int) < (s.size : Int) := by omega
    have hN : cornN s s.size ≤ 16777216 := by omega
    generalize hNN : cornN s s.size = N at *
    by_cases ha : s[0] = 102
    · have hb1 : ((s[0].toNat : Int) == 102) = true := by rw [ha]; rfl
      by_cases hb' : s[L] = 100
      · have hb2 : ((s[L].toNat : Int) == 100) = true := by rw [hb']; rfl
        have HR := Lib.hid (folds_yes hi hL (if_pos ha) (if_pos hb'))
        clear ha hb' hi hL e1
        rw [hNN] at HR
        clear hNN
        go_enter Try.func15, Try.ntmps15
        go_wp2_with (first | (go_at_call 85; refine (unhide HQ1 _).mono ?_; rintro e w' ⟨rfl, rfl⟩) | (go_at_call 86; refine (unhide HQ2 _).mono ?_; rintro e w2 ⟨A2, c2, rfl, hb2⟩))
        go_ret
        exact ⟨ret_int (by rw [HR.out]; try omega), hb2⟩
      · have hb2 : ((s[L].toNat : Int) == 100) = false := by rw [beq_eq_false_iff_ne]; intro h; apply hb'; apply UInt8.toNat_inj.1; show _ = 100; omega
        have HR := Lib.hid (folds_yes hi hL (if_pos ha) (if_neg hb'))
        clear ha hb' hi hL e1
        rw [hNN] at HR
        clear hNN
        go_enter Try.func15, Try.ntmps15
        go_wp2_with (first | (go_at_call 85; refine (unhide HQ1 _).mono ?_; rintro e w' ⟨rfl, rfl⟩) | (go_at_call 86; refine (unhide HQ2 _).mono ?_; rintro e w2 ⟨A2, c2, rfl, hb2⟩))
        go_ret
        exact ⟨ret_int (by rw [HR.out]; try omega), hb2⟩
    · have hb1 : ((s[0].toNat : Int) == 102) = false := by rw [beq_eq_false_iff_ne]; intro h; apply ha; apply UInt8.toNat_inj.1; show _ = 102; omega
      by_cases hb' : s[L] = 100
      · have hb2 : ((s[L].toNat : Int) == 100) = true := by rw [hb']; rfl
        have HR := Lib.hid (folds_yes hi hL (if_neg ha) (if_pos hb'))
        clear ha hb' hi hL e1
        rw [hNN] at HR
        clear hNN
        go_enter Try.func15, Try.ntmps15
        go_wp2_with (first | (go_at_call 85; refine (unhide HQ1 _).mono ?_; rintro e w' ⟨rfl, rfl⟩) | (go_at_call 86; refine (unhide HQ2 _).mono ?_; rintro e w2 ⟨A2, c2, rfl, hb2⟩))
        go_ret
        exact ⟨ret_int (by rw [HR.out]; try omega), hb2⟩
      · have hb2 : ((s[L].toNat : Int) == 100) = false := by rw [beq_eq_false_iff_ne]; intro h; apply hb'; apply UInt8.toNat_inj.1; show _ = 100; omega
        have HR := Lib.hid (folds_yes hi hL (if_neg ha) (if_neg hb'))
        clear ha hb' hi hL e1
        rw [hNN] at HR
        clear hNN
        go_enter Try.func15, Try.ntmps15
        go_wp2_with (first | (go_at_call 85; refine (unhide HQ1 _).mono ?_; rintro e w' ⟨rfl, rfl⟩) | (go_at_call 86; refine (unhide HQ2 _).mono ?_; rintro e w2 ⟨A2, c2, rfl, hb2⟩))
        go_ret
        exact ⟨ret_int (by rw [HR.out]; try omega), hb2⟩
end Go.Proofs.Yteffbjddgdjkmaa
