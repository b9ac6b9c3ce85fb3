/- The contracts of changed, MirrorCard. -/
import Derived.Test.YtlimlolciekimaaDoorCard2
namespace Go.Proofs.YtlimlolciekimaaDoor
open Go.ChangeShapes Go.WideShapes Go.ChangeAt Go.RowKit
set_option linter.unusedVariables false

/-- a card of the call's own, and a bool -/
def FreshCardB (base : Nat) (d f : Int) (ss : List ByteArray) (b : Bool) (w : World) (e : Ending) (w' : World) : Prop :=
  ∃ A c, e = .returned (.tuple #[.agg #[.int .i64 d, .int .i64 f, .slice A ss.length c], .bool b]) ∧ w'.ownsRow base 9 1 (.slice A ss.length c) ss.length (ss.map Value.string) ∧ Below w.heap.size w w'


def putAt (d f : Int) (ss : List ByteArray) (k : Int) (s : ByteArray) : List ByteArray × Bool :=
  if (cardOk d f ss && inB k 0 ((ss.length : Int) - 1)) && cardOk d f (ss.set k.toNat s) then (ss.set k.toNat s, true) else (ss, false)

theorem Strs.setCell {w : World} {B n : Nat} {A : Option Addr} {ss : List ByteArray} (h : Strs w B A n ss) {p : Addr} (hB : B ≤ p.block) (u : Value) : Strs (w.setCell p u) B A n ss := ⟨h.rd.setCell hB u, h.nb, h.sb⟩
theorem set_map (ss : List ByteArray) (k : Nat) (s : ByteArray) : (ss.map Value.string).set k (Value.string s) = (ss.set k s).map Value.string := by
  rw [List.map_set]
theorem strs_of_own {w : World} {base n c : Nat} {A : Option Addr} {ss : List ByteArray} (h : w.ownsRow base 9 1 (.slice A n c) n (ss.map Value.string)) (hn : n ≤ 16777216) (hs : ∀ s ∈ ss, s.size ≤ 16777216) : Strs w w.heap.size A n ss :=
  ⟨Reads.of_own h, hn, hs⟩
theorem inB_iff {x a b : Int} : inB x a b = true ↔ a ≤ x ∧ x ≤ b := by simp [inB]

end Go.Proofs.YtlimlolciekimaaDoor
