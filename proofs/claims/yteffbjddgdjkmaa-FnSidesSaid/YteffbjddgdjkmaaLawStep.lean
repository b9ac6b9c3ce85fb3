/- szStep, toStep of the laws, and a Step argument opened. -/
import Derived.Test.YteffbjddgdjkmaaLawBox
import Derived.Test.YteffbjddgdjkmaaLawKit2
namespace Go.Proofs.Yteffbjddgdjkmaa
open Go.ChangeShapes Go.WideShapes Go.ChangeAt Go.RowKit
set_option linter.unusedVariables false
set_option maxRecDepth 10000

def szStep (b a : ByteArray) (left : Int) : Int := if left - b.size < 0 then -1 else if left - b.size - a.size < 0 then -1 else left - b.size - a.size
theorem sz_ub_step (b a : ByteArray) (l : Int) (h : l ≤ 1048576) : szStep b a l ≤ 1048576 := by
  unfold szStep; split
  · omega
  · split <;> omega
theorem step_of_sz {b a : ByteArray} {l : Int} (hl1 : l ≤ 1048576) (hz : 0 ≤ szStep b a l) : b.size ≤ 1048576 ∧ a.size ≤ 1048576 := by
  unfold szStep at hz
  split at hz
  · omega
  · split at hz <;> omega
theorem array7 {α : Type} {cs : Array α} (h : cs.size = 7) : ∃ c0 c1 c2 c3 c4 c5 c6, cs = #[c0, c1, c2, c3, c4, c5, c6] := by
  obtain ⟨l⟩ := cs
  match l, h with
  | [c0, c1, c2, c3, c4, c5, c6], _ => exact ⟨c0, c1, c2, c3, c4, c5, c6, rfl⟩
theorem trod_field {H : Type} {enc : TypeId × Value → H} {P : Program} {w : World} {base : Nat} {spare : Nat → Bool} {held : Bool} {t : TypeId} {fs : Array Field} {fuel : Nat} {cs : List Value} {x : DataW H × List MemPlace}
    (ht : P.underlying t = some (.struct fs)) (h : DataW.trod enc P w base spare held fuel t cs = some x) (i : Nat) (f : Field) (hf : fs[i]? = some f) {c : Nat} (hc : P.cellsOf f.type = c) :
    ∃ n y, DataW.trod enc P w base spare held n f.type ((cs.drop f.offset).take c) = some y := by
  obtain ⟨xs, n, _, _, _, hlen, hg⟩ := DataW.trod_struct ht h
  have h1 := hg i f hf
  have hi : i < fs.size := (Array.getElem?_eq_some_iff.1 hf).1
  rw [List.getElem?_eq_getElem (by omega), hc] at h1
  exact ⟨n, _, h1⟩
end Go.Proofs.Yteffbjddgdjkmaa
