/- The contracts of slices.Clone, copied, l05Copy, hasStrip, changed. -/
import Derived.Test.YtlimlolciekimaaDoorLaw1
import Derived.Deep.RegionWith
namespace Go.Proofs.YtlimlolciekimaaDoor
open Go.ChangeShapes Go.WideShapes Go.ChangeAt Go.RowKit
set_option linter.unusedVariables false

theorem made_at {e : TypeId} {size : Nat} (W : World) (base k : Nat) (hk : W.heap.size = k) (hb : base ≤ k) : (W.alloc (.cells #[] e)).ownsRow base e size (.slice (some ⟨k, 0, none⟩) 0 0) 0 [] := by
  subst hk
  exact World.ownsRow_made W #[] 0 hb (by unfold maxLen; omega) (by simp)
theorem fresh_of {base n : Nat} {v : Value} {ss : List ByteArray} {w w' : World} (hl : ss.length = n) (ho : w'.ownsRow base 9 1 v n (ss.map Value.string)) (hb : Below w.heap.size w w') : FreshStrs base ss w (.returned v) w' := by
  subst hl
  rcases ho.2 with ⟨rfl, h0⟩ | ⟨g, cap, cur, rfl, _⟩
  · rw [h0] at ho
    refine ⟨none, 0, by rw [h0], ?_, hb⟩
    rw [h0]; exact ho
  · exact ⟨_, _, rfl, ho, hb⟩



end Go.Proofs.YtlimlolciekimaaDoor
