/- Contracts of the program's and the reference's functions (RowInt). -/
import Derived.Test.YtccjedongkokoaaRows
import Derived.Test.YtccjedongkokoaaQTo
import Derived.Test.YtccjedongkokoaaQTb
namespace Go.Proofs.Ytccjedongkokoaa
open Go.ChangeShapes Go.WideShapes Go.ChangeAt Go.RowKit
set_option linter.unusedVariables false
set_option maxRecDepth 10000
structure OwnN (w : World) (lo hi : Nat) (A : Option Addr) (c : Nat) (l : List Int) : Prop where
  row : w.ownsRow lo 3 1 (.slice A l.length c) l.length (ints l)
  top : ∀ k, (Value.slice A l.length c).ownBlock = some k → k < hi
def marksN (k : Int) (n : Nat) : List Value := (List.range n).map fun i => Value.int .i64 (k + (i : Nat))
theorem marksN_len (k : Int) (n : Nat) : (marksN k n).length = n := by simp [marksN]
theorem marksN_succ (k : Int) (n : Nat) : marksN k (n + 1) = marksN k n ++ [.int .i64 (k + n)] := by
  simp [marksN, List.range_succ]
theorem marksN_step (k : Int) (i : Nat) (xs : List Value) (hi : i < xs.length) : (marksN k i ++ xs.drop i).set i (.int .i64 (k + i)) = marksN k (i + 1) ++ xs.drop (i + 1) := by
  rw [marksN_succ, List.set_append, if_neg (by simp [marksN_len]), marksN_len, Nat.sub_self, List.drop_eq_getElem_cons hi, List.set_cons_zero, List.append_assoc]
  rfl
structure MkN (w : World) (lo hi : Nat) (A : Option Addr) (c : Nat) (k : Int) (n : Nat) : Prop where
  row : w.ownsRow lo 3 1 (.slice A n c) n (marksN k n)
  top : ∀ k, (Value.slice A n c).ownBlock = some k → k < hi
section
variable {lo hi lo' hi' : Nat} {w w' : World} {A : Option Addr} {c n : Nat} {l : List Int} {k : Int}
end
def UInts (l : List Int) (w : World) (e : Ending) (w' : World) : Prop :=
  ∃ A c, e = .returned (.slice A l.length c) ∧ OwnN w' w.heap.size w'.heap.size A c l ∧ Below w.heap.size w w'
theorem mkN_get {k : Int} {n j : Nat} {u : Value} (hj : j < n) (h : (marksN k n)[j]? = some u) : u = .int .i64 (k + j) := by
  simp [marksN, hj] at h; exact h.symm
set_option maxHeartbeats 400000 in
theorem l_eqIntS_same (B : Nat) (A1 A2 : Option Addr) (n c1 c2 : Nat) (l : List Int) (w : World) (h1 : Reads w B 1 A1 n (ints l)) (h2 : Reads w B 1 A2 n (ints l)) (hn : n ≤ 16777216) :
    Calls Try.prog 80 #[.slice A1 n c1, .slice A2 n c2] w fun e w' => e = .returned (.bool true) ∧ Below w.heap.size w w' := by
  go_enter Try.func80, Try.ntmps80
  go_wp2
  go_loopw [5] (fun i wr => ∃ j m : Nat, j ≤ n ∧ i = .int .i64 j ∧ wr = w.drewN m) (fun i _ => n - (intOf i).toNat)
  case atStart => exact ⟨0, 0, Nat.zero_le _, rfl, rfl⟩
  case round =>
    obtain ⟨j, m, hj, rfl, rfl⟩ := hrel
    by_cases hlt : j < n
    · obtain ⟨hk1, ad1, rfl, hab1, hc1⟩ := ints_at h1 hlt
      obtain ⟨hk2, ad2, rfl, hab2, hc2⟩ := ints_at h2 hlt
      go_wp2
      go_quiet (fail)
      go_wp2
      go_roundw
      case rel => exact ⟨j + 1, _, by omega, by go_num, by first | rfl | exact World.drewN_drewN _ _ _⟩
      case measure => simp [intOf]; omega
    · go_wp2
      go_ret
      exact ⟨rfl, bel⟩
set_option maxHeartbeats 400000 in
theorem l_markIntS (base : Nat) (A : Option Addr) (n c : Nat) (xs : List Value) (k : Int) (w : World) (hO : w.ownsRow base 3 1 (.slice A n c) n xs) (hk0 : 0 ≤ k) (hk1 : k ≤ 4503599627370496) (hn : n ≤ 16777216) :
    Calls Try.prog 84 #[.slice A n c, .int .i64 k] w fun e w' => e = .returned (.int .i64 (k + (n : Int))) ∧ w'.ownsRow base 3 1 (.slice A n c) n (marksN k n) ∧ w.grownBy w' (Value.slice A n c).ownBlock := by
  go_enter Try.func84, Try.ntmps84
  go_wp2
  go_loopw [1, 5] (fun q i wr => ∃ j : Nat, j ≤ n ∧ i = .int .i64 j ∧ q = .int .i64 (k + j) ∧ wr.ownsRow base 3 1 (.slice A n c) n (marksN k j ++ xs.drop j) ∧ w.grownBy wr (Value.slice A n c).ownBlock) (fun _ i _ => n - (intOf i).toNat)
  case atStart => exact ⟨0, Nat.zero_le _, rfl, by go_num, by simpa [marksN] using hO, World.grownBy.refl w _⟩
  case round =>
    obtain ⟨j, hj, rfl, rfl, hown, hg⟩ := hrel
    by_cases hlt : j < n
    · obtain ⟨g, cap, hv, hbg, hglt⟩ := hown.form (by omega)
      have hA : A = some ⟨g, 0, none⟩ := by injection hv
      subst hA
      clear hv
      have hxl : xs.length = n := by have := hO.1; omega
      have HX := Lib.hid hxl
      clear hxl
      obtain ⟨u1, hc1⟩ := own_cell hown (j := j) (by omega)
      have hf1 := hown.frozenAt j
      go_wp2
      go_roundw
      case rel =>
        have hst := hown.stored j (.int .i64 (k + j))
        refine ⟨j + 1, by omega, by go_num, by go_num, ?_, ?_⟩
        · rw [← marksN_step k j xs (by have := HX.out; omega)]; exact hst.1
        · exact only_trans hg hst.2
      case measure => simp [intOf]; omega
    · have hjn : j = n := by omega
      subst hjn
      have hxl : xs.length = j := by have := hO.1; omega
      have hd : xs.drop j = [] := List.drop_eq_nil_of_le (by omega)
      rw [hd, List.append_nil] at hown
      clear hd hxl
      go_wp2
      go_ret
      exact ⟨rfl, hown, hg⟩
set_option maxHeartbeats 400000 in
theorem l_heldIntS (B : Nat) (A : Option Addr) (n c : Nat) (k : Int) (w : World) (hR : Reads w B 1 A n (marksN k n)) (hk0 : 0 ≤ k) (hk1 : k ≤ 4503599627370496) (hn : n ≤ 16777216) :
    Calls Try.prog 85 #[.slice A n c, .int .i64 k] w fun e w' => e = .returned (.int .i64 (k + (n : Int))) ∧ Below w.heap.size w w' := by
  go_enter Try.func85, Try.ntmps85
  go_wp2
  go_loopw [1, 5] (fun q i wr => ∃ j m : Nat, j ≤ n ∧ i = .int .i64 j ∧ q = .int .i64 (k + j) ∧ wr = w.drewN m) (fun _ i _ => n - (intOf i).toNat)
  case atStart => exact ⟨0, 0, Nat.zero_le _, rfl, by go_num, rfl⟩
  case round =>
    obtain ⟨j, m, hj, rfl, rfl, rfl⟩ := hrel
    by_cases hlt : j < n
    · obtain ⟨ad, u, rfl, hab, hx, hc⟩ := hR.at_ hlt
      have hu := mkN_get hlt hx
      subst hu
      clear hx
      go_wp2
      go_roundw
      case rel => exact ⟨j + 1, _, by omega, by go_num, by go_num, rfl⟩
      case measure => simp [intOf]; omega
    · have hjn : j = n := by omega
      subst hjn
      go_wp2
      go_ret
      exact ⟨rfl, bel⟩
end Go.Proofs.Ytccjedongkokoaa
