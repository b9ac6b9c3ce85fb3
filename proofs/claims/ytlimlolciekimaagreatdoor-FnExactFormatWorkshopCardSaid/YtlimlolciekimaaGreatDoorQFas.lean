/- Contracts of the program's and the reference's functions (RowStr). -/
import Derived.Test.YtlimlolciekimaaGreatDoorRows
import Derived.Test.YtlimlolciekimaaGreatDoorQFb
namespace Go.Proofs.YtlimlolciekimaaGreatDoor
open Go.ChangeShapes Go.WideShapes Go.ChangeAt Go.RowKit
set_option linter.unusedVariables false
set_option maxRecDepth 10000
def UStrs (l : List ByteArray) (w : World) (e : Ending) (w' : World) : Prop :=
  ∃ A c, e = .returned (.slice A l.length c) ∧ OwnS w' w.heap.size w'.heap.size A c l ∧ Below w.heap.size w w'
def UStrsB (l : List ByteArray) (b : Bool) (w : World) (e : Ending) (w' : World) : Prop :=
  ∃ A c, e = .returned (.tuple #[.slice A l.length c, .bool b]) ∧ OwnS w' w.heap.size w'.heap.size A c l ∧ Below w.heap.size w w'
theorem UStrs.of {l : List ByteArray} {w w' : World} {e : Ending} (h : FreshStrs w.heap.size l w e w') : UStrs l w e w' := by
  obtain ⟨A, c, he, ho, hb⟩ := h
  exact ⟨A, c, he, OwnS.of ho (Nat.le_refl _), hb⟩
theorem u_eqStringS (l : List ByteArray) (A1 A2 : Option Addr) (c1 c2 lo1 hi1 lo2 hi2 : Nat) (w : World) (h1 : OwnS w lo1 hi1 A1 c1 l) (h2 : OwnS w lo2 hi2 A2 c2 l) (hok : OkS l 16777216) :
    Calls Tryz.prog 19 #[.slice A1 l.length c1, .slice A2 l.length c2] w fun e w' => e = .returned (.bool true) ∧ Below w.heap.size w w' := by
  refine (l_eqStringS w.heap.size A1 A2 _ _ c1 c2 l l w (h1.rd hok.1 hok.2) (h2.rd hok.1 hok.2) (Nat.le_refl _)).mono ?_
  rintro e w' ⟨rfl, hb⟩
  refine ⟨?_, hb⟩
  unfold eqSS
  rw [decide_eq_true rfl]
theorem u_markStringSw (l : List ByteArray) (A : Option Addr) (c lo hi : Nat) (k : Int) (w : World) (h : OwnS w lo hi A c l) (hk0 : 0 ≤ k) (hk1 : k ≤ 4503599627370496) (hok : OkS l 16777216) :
    Calls Tryz.prog 22 #[.slice A l.length c, .int .i64 k] w fun e w' => e = .returned (.int .i64 (k + (l.length : Int))) ∧ MkS w' lo hi A c k l.length ∧ Within lo hi w w' := by
  refine (l_markStringS lo A _ c _ k w h.row hk0 hk1 hok.1).mono ?_
  rintro e w' ⟨rfl, ho, hg⟩
  exact ⟨rfl, ⟨ho, h.top⟩, Within.of_grown h.row (by decide) hg (Nat.le_refl _) h.top⟩
theorem u_heldStringSw (A : Option Addr) (c n lo hi : Nat) (k : Int) (w : World) (h : MkS w lo hi A c k n) (hk0 : 0 ≤ k) (hk1 : k ≤ 4503599627370496) (hn : n ≤ 16777216) :
    Calls Tryz.prog 23 #[.slice A n c, .int .i64 k] w fun e w' => e = .returned (.int .i64 (k + (n : Int))) ∧ Below w.heap.size w w' :=
  l_heldStringS w.heap.size A n c k w (Reads.of_own h.row) (Nat.le_refl _) hk0 hk1 hn
end Go.Proofs.YtlimlolciekimaaGreatDoor
