/- The law package's helpers over cards in one form: what is owned lies in blocks of a range. -/
import Derived.Test.YteffbjddgdjkmaaFrame
namespace Go.Proofs.Yteffbjddgdjkmaa
open Go.ChangeShapes Go.WideShapes Go.ChangeAt Go.RowKit
set_option linter.unusedVariables false
set_option maxRecDepth 10000

def OkS (ss : List ByteArray) (m : Nat) : Prop := ss.length ≤ m ∧ ∀ s ∈ ss, s.size ≤ 16777216
theorem OkS.more {ss : List ByteArray} {m k : Nat} (h : OkS ss m) (hk : m ≤ k) : OkS ss k := ⟨by have := h.1; omega, h.2⟩
/-- a card of the call's own -/
def UCard (d f : Int) (ss : List ByteArray) (w : World) (e : Ending) (w' : World) : Prop :=
  ∃ A c, e = .returned (.agg #[.int .i64 d, .int .i64 f, .slice A ss.length c]) ∧ OwnS w' w.heap.size w'.heap.size A c ss ∧ Below w.heap.size w w'
def UCardB (d f : Int) (ss : List ByteArray) (b : Bool) (w : World) (e : Ending) (w' : World) : Prop :=
  ∃ A c, e = .returned (.tuple #[.agg #[.int .i64 d, .int .i64 f, .slice A ss.length c], .bool b]) ∧ OwnS w' w.heap.size w'.heap.size A c ss ∧ Below w.heap.size w w'
theorem UCard.of {d f : Int} {ss : List ByteArray} {w w' : World} {e : Ending} (h : FreshCard w.heap.size d f ss w e w') : UCard d f ss w e w' := by
  obtain ⟨A, c, he, ho, hb⟩ := h
  exact ⟨A, c, he, OwnS.of ho (Nat.le_refl _), hb⟩
theorem UCardB.of {d f : Int} {ss : List ByteArray} {b : Bool} {w w' : World} {e : Ending} (h : FreshCardB w.heap.size d f ss b w e w') : UCardB d f ss b w e w' := by
  obtain ⟨A, c, he, ho, hb⟩ := h
  exact ⟨A, c, he, OwnS.of ho (Nat.le_refl _), hb⟩
/-- a row of marks of one's own -/
structure MkS (w : World) (lo hi : Nat) (A : Option Addr) (c : Nat) (k : Int) (n : Nat) : Prop where
  row : w.ownsRow lo 9 1 (.slice A n c) n (marks k n)
  top : ∀ k, (Value.slice A n c).ownBlock = some k → k < hi
section
variable {lo hi : Nat} {w w' : World} {A : Option Addr} {c n : Nat} {k : Int}
theorem MkS.below (h : MkS w lo hi A c k n) (hb : Below w.heap.size w w') : MkS w' lo hi A c k n := ⟨own_below h.row hb, h.top⟩
theorem MkS.alloc (h : MkS w lo hi A c k n) (o : Obj) : MkS (w.alloc o) lo hi A c k n := ⟨h.row.alloc _, h.top⟩
end
theorem u_toCard (d f : Int) (B : Nat) (A : Option Addr) (n c : Nat) (ss : List ByteArray) (w : World) (hS : Strs w B A n ss) (hB : B ≤ w.heap.size) :
    Calls Try.prog 182 #[.agg #[.int .i64 d, .int .i64 f, .slice A n c]] w (UCard d f ss w) :=
  (l_toCard d f B A n c ss w hS hB).mono fun _ _ h => UCard.of h
theorem u_eqCard (d f : Int) (A1 A2 : Option Addr) (c1 c2 : Nat) (ss : List ByteArray) (lo1 hi1 lo2 hi2 : Nat) (w : World) (h1 : OwnS w lo1 hi1 A1 c1 ss) (h2 : OwnS w lo2 hi2 A2 c2 ss) (hok : OkS ss 16777216) :
    Calls Try.prog 183 #[.agg #[.int .i64 d, .int .i64 f, .slice A1 ss.length c1], .agg #[.int .i64 d, .int .i64 f, .slice A2 ss.length c2]] w fun e w' => e = .returned (.bool true) ∧ Below w.heap.size w w' :=
  l_eqCard_same d f A1 A2 _ _ c1 c2 ss lo1 lo2 w h1.row h2.row hok.1 hok.2
end Go.Proofs.Yteffbjddgdjkmaa
