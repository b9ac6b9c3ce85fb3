/- The contracts of the corners and of RaiseAt, LowerAt of both packages. -/
import Derived.Test.YtdddglihomchfaaCard1
import Derived.Lib.Strings
import Derived.WalkSpells
import Derived.WalkLawsBesides
namespace Go.Proofs.Ytdddglihomchfaa
open Go.ChangeShapes Go.WideShapes Go.ChangeAt Go.RowKit
set_option linter.unusedVariables false
set_option maxRecDepth 10000

def chr (s : ByteArray) (k : Int) : UInt8 := s.data.toList.getD k.toNat 0
def cornerAny (s : ByteArray) (k : Int) : Bool := inB k 1 ((s.size : Int) - 1) && (chr s (k - 1) != chr s k)
def cornerB (c : UInt8) (s : ByteArray) (k : Int) : Bool := (isStrip s.data.toList && cornerAny s k) && (chr s (k - 1) == c)
def swapL (l : List UInt8) (k : Nat) : List UInt8 := ((l.take (k - 1) ++ (l.drop k).take 1) ++ (l.drop (k - 1)).take 1) ++ l.drop (k + 1)
def swapB (s : ByteArray) (k : Int) : ByteArray := ⟨(swapL s.data.toList k.toNat).toArray⟩
theorem inB_iff' {x a b : Int} : inB x a b = true ↔ a ≤ x ∧ x ≤ b := by simp [inB]
theorem chr_get (s : ByteArray) (K : Nat) (h : K < s.size) : chr s (K : Int) = s[K] := by
  unfold chr
  rw [Int.toNat_natCast, List.getD_eq_getElem?_getD, List.getElem?_eq_getElem (by simpa using h)]
  rfl
theorem neq_bytes (a b : UInt8) : (!((a.toNat : Int) == (b.toNat : Int))) = (a != b) := by
  by_cases h : a = b
  · subst h; simp
  · have h3 : ((a.toNat : Int) == (b.toNat : Int)) = false := by rw [beq_eq_false_iff_ne]; intro h2; exact h (UInt8.toNat_inj.1 (by omega))
    have h4 : (a == b) = false := by rw [beq_eq_false_iff_ne]; exact h
    rw [h3, bne, h4]
theorem eq_bytes (a b : UInt8) : ((a.toNat : Int) == (b.toNat : Int)) = (a == b) := by
  have h := neq_bytes a b
  rw [bne] at h
  exact Bool.not_inj h

theorem quiet_ex {P : Program} {f : FuncId} {args : Array Value} {w : World} {n : Nat} {v : Value}
    (h : Calls P f args (w.drewN n) fun e w' => e = .returned v ∧ ∃ m, w' = (w.drewN n).drewN m) : Calls P f args (w.drewN n) fun e w'' => e = .returned v ∧ ∃ m, w'' = w.drewN m :=
  h.mono fun _ _ ⟨he, m, hm⟩ => ⟨he, n + m, by rw [hm, World.drewN_drewN]⟩

set_option maxHeartbeats 400000 in
theorem i_isCorner (s : ByteArray) (k : Int) (w : World) (hs : s.size ≤ 16777216) :
    Calls Try.prog 99 #[.string s, .int .i64 k] w fun e w' => e = .returned (.bool (cornerAny s k)) ∧ ∃ m, w' = w.drewN m := by
  have hw1 : IntKind.i64.wrap ((s.size : Int) - 1) = (s.size : Int) - 1 := by rw [IntWalk.i64_in _ (by omega)]
  have hq1 : ∀ (W : World) (v : Int), v = (s.size : Int) - 1 → Calls Try.prog 40 #[.int .i64 k, .int .i64 1, .int .i64 v] W fun e w' => e = .returned (.bool (inB k 1 ((s.size : Int) - 1))) ∧ W = w' := fun W v hv => by rw [hv]; exact i_within _ _ _ _
  have HW := hide hw1
  clear hw1
  cases hk : inB k 1 ((s.size : Int) - 1)
  · have HF : Hid (cornerAny s k = false) := by unfold Hid cornerAny; rw [hk]; rfl
    rw [hk] at hq1
    have HQ1 := hide hq1
    clear hq1
    go_enter Try.func99, Try.ntmps99
    go_wp2
    go_quiet (((first | (go_at_call 40; first | exact quiet_left (unhide HQ1 _ _ (by first | with_reducible rfl | exact unhide HW)) | exact quiet_add_left (unhide HQ1 _ _ (by first | with_reducible rfl | exact unhide HW))))))
    go_wp2
    go_ret
    exact ⟨ret_bool HF.out.symm, by first | exact ⟨0, rfl⟩ | exact ⟨_, rfl⟩ | exact ⟨_, World.drewN_drewN _ _ _⟩⟩
  · rw [hk] at hq1
    have HQ1 := hide hq1
    clear hq1
    have hb := inB_iff'.1 hk
    obtain ⟨L, rfl⟩ := Int.eq_ofNat_of_zero_le (show 0 ≤ k by omega)
    obtain ⟨K, hKL⟩ : ∃ K, L = K + 1 := ⟨L - 1, by omega⟩
    have hL : L < s.size := by omega
    have hK : K < s.size := by omega
    have e1 : ((L : Int) - 1) = (K : Int) := by omega
    have w1 : IntKind.i64.wrap ((L : Int) - 1) = (K : Int) := by rw [e1, IntWalk.i64_in _ (by omega)]
    have HF : Hid (cornerAny s L = (s[K] != s[L])) := by unfold Hid cornerAny; rw [hk, e1, chr_get s K hK, chr_get s L hL]; rfl
    have HK := hide hk
    have HKL := Lib.hid hKL
    clear hk hb hKL e1
    go_enter Try.func99, Try.ntmps99
    go_wp2
    go_quiet (((first | (go_at_call 40; first | exact quiet_left (unhide HQ1 _ _ (by first | with_reducible rfl | exact unhide HW)) | exact quiet_add_left (unhide HQ1 _ _ (by first | with_reducible rfl | exact unhide HW))))))
    go_wp2
    go_ret
    exact ⟨ret_bool (by rw [HF.out]; exact neq_bytes _ _), by first | exact ⟨0, rfl⟩ | exact ⟨_, rfl⟩ | exact ⟨_, World.drewN_drewN _ _ _⟩⟩






end Go.Proofs.Ytdddglihomchfaa
