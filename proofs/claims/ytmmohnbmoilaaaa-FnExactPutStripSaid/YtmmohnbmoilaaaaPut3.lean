/- The contracts of PutStrip in both packages, in the form that the law's walk takes. -/
import Derived.Test.YtmmohnbmoilaaaaPut2
import Derived.Test.YtmmohnbmoilaaaaUCard
namespace Go.Proofs.Ytmmohnbmoilaaaa
open Go.ChangeShapes Go.WideShapes Go.ChangeAt Go.RowKit
set_option linter.unusedVariables false

theorem ownS_fresh {d f : Int} {ss : List ByteArray} {b : Bool} {w w' : World} {e : Ending} (h : FreshCardB w.heap.size d f ss b w e w') :
    ∃ A c, e = .returned (.tuple #[.agg #[.int .i64 d, .int .i64 f, .slice A ss.length c], .bool b]) ∧ OwnS w' w.heap.size w'.heap.size A c ss ∧ Below w.heap.size w w' := by
  obtain ⟨A, c, h1, h2, h3⟩ := h
  exact ⟨A, c, h1, ⟨h2, fun k hk => (h2.lt k hk).2⟩, h3⟩
theorem i_PutStripO (d f : Int) (B : Nat) (A : Option Addr) (c : Nat) (ss : List ByteArray) (k : Int) (s : ByteArray) (w : World) (hS : Strs w B A ss.length ss) (hB : B ≤ w.heap.size) (hss : s.size ≤ 16777216) (hnm : ss.length ≤ 16777215) :
    Calls Try.prog 54 #[.agg #[.int .i64 d, .int .i64 f, .slice A ss.length c], .int .i64 k, .string s] w fun e w' =>
      ∃ A' c', e = .returned (.tuple #[.agg #[.int .i64 d, .int .i64 f, .slice A' (insAt d f ss k s).1.length c'], .bool (insAt d f ss k s).2]) ∧ OwnS w' w.heap.size w'.heap.size A' c' (insAt d f ss k s).1 ∧ Below w.heap.size w w' :=
  (i_PutStrip d f B A ss.length c ss k s w hS hB hss hnm).mono fun e w' h => ownS_fresh h
theorem s_PutStripO (d f : Int) (B : Nat) (A : Option Addr) (c : Nat) (ss : List ByteArray) (k : Int) (s : ByteArray) (w : World) (hS : Strs w B A ss.length ss) (hB : B ≤ w.heap.size) (hc : ss.length ≤ c ∧ c ≤ 9223372036854775807) (hss : s.size ≤ 16777216) (hnm : ss.length ≤ 16777215) :
    Calls Try.prog 53 #[.agg #[.int .i64 d, .int .i64 f, .slice A ss.length c], .int .i64 k, .string s] w fun e w' =>
      ∃ A' c', e = .returned (.tuple #[.agg #[.int .i64 d, .int .i64 f, .slice A' (insAt d f ss k s).1.length c'], .bool (insAt d f ss k s).2]) ∧ OwnS w' w.heap.size w'.heap.size A' c' (insAt d f ss k s).1 ∧ Below w.heap.size w w' :=
  (s_PutStrip d f B A ss.length c ss k s w hS hB hc.1 hc.2 hss hnm).mono fun e w' h => ownS_fresh h
end Go.Proofs.Ytmmohnbmoilaaaa
