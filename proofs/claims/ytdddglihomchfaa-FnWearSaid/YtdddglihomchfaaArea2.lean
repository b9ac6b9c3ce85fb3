/- The contracts of HeightsOf of both packages. -/
import Derived.Test.YtdddglihomchfaaArea1
import Derived.Deep.Upon
namespace Go.Proofs.Ytdddglihomchfaa
open Go.ChangeShapes Go.WideShapes Go.ChangeAt Go.RowKit
set_option linter.unusedVariables false
set_option maxRecDepth 10000

theorem ints_snoc (l : List Int) (x : Int) : ints (l ++ [x]) = ints l ++ [Value.int .i64 x] := by simp [ints]
theorem htsOf_len (l : List UInt8) : (htsOf l).length = cnt 102 l := hts_len _ _
theorem cnt_take_le (c : UInt8) (l : List UInt8) (k : Nat) : cnt c (l.take k) ≤ k := by
  have := cnt_le c (l.take k); rw [List.length_take] at this; omega
theorem fresh_ints {w wr : World} {N : Nat} {A : Option Addr} {c : Nat} {l : List Int} (hN : l.length = N) (ho : wr.ownsRow w.heap.size 3 1 (.slice A N c) N (ints l)) (hb : Below w.heap.size w wr) : FreshInts w.heap.size l w (.returned (.slice A N c)) wr := by
  subst hN; exact ⟨A, c, rfl, ho, hb⟩
end Go.Proofs.Ytdddglihomchfaa
