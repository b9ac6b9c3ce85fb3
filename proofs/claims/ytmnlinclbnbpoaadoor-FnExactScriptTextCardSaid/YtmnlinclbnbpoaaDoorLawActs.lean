/- Rows of acts as a law's argument. -/
import Derived.Test.YtmnlinclbnbpoaaDoorRowAct
import Derived.Test.YtmnlinclbnbpoaaDoorRows2
import Derived.Test.YtmnlinclbnbpoaaDoorLift0
import Derived.Test.YtmnlinclbnbpoaaDoorLawStep
namespace Go.Proofs.YtmnlinclbnbpoaaDoor
open Go.ChangeShapes Go.WideShapes Go.ChangeAt Go.RowKit Go.Deep
set_option linter.unusedVariables false
set_option maxRecDepth 10000

def szActs (pp : List PAct) (left : Int) : Int := if left - pp.length < 0 then -1 else left - pp.length
theorem szActs_ub (pp : List PAct) (l : Int) (h : l ≤ 1048576) : szActs pp l ≤ 1048576 := by unfold szActs; split <;> omega
theorem acts_of_sz {w : World} {A : Option Addr} {l : List PAct} {left : Int} (h : Reads w w.heap.size 3 A l.length (l.flatMap actCells)) (hl : left ≤ 1048576) (hz : 0 ≤ szActs l left) : Acts w w.heap.size A l.length l ∧ l.length ≤ 1048576 := by
  have : l.length ≤ 1048576 := by
    unfold szActs at hz
    split at hz
    · omega
    · omega
  exact ⟨⟨h, by omega⟩, this⟩
theorem l_szActS (pp : List PAct) (A : Option Addr) (c : Nat) (left : Int) (w : World) (hn : pp.length ≤ 9223372036854775807) (h0 : -1 ≤ left) (h1 : left ≤ 1048576) :
    Calls Tryd.prog 9 #[.slice A pp.length c, .int .i64 left] w fun e w' => e = .returned (.int .i64 (szActs pp left)) ∧ Below w.heap.size w w' := by
  by_cases h3 : left - pp.length < 0
  · have HR : Hid (szActs pp left = -1) := by unfold Hid szActs; rw [if_pos h3]
    have hw : IntKind.i64.wrap (left - pp.length) = left - pp.length := by rw [IntKind.wrap_i64]; omega
    go_enter Tryd.func9, Tryd.ntmps9
    go_wp2
    go_ret
    exact ⟨ret_int HR.out.symm, bel⟩
  · have HR : Hid (szActs pp left = left - pp.length) := by unfold Hid szActs; rw [if_neg h3]
    have hw : IntKind.i64.wrap (left - pp.length) = left - pp.length := by rw [IntKind.wrap_i64]; omega
    go_enter Tryd.func9, Tryd.ntmps9
    go_wp2
    go_ret
    exact ⟨ret_int HR.out.symm, bel⟩
theorem cells_intR : Tryd.prog.cellsOf 3 = 1 := by kernel_rfl
theorem cells_lactR : Tryd.prog.cellsOf 23 = 3 := by kernel_rfl
theorem trod_lact {H : Type} {enc : TypeId × Value → H} {W : World} {n : Nat} {cs : List Value} {x : DataW H × List MemPlace} (hl : cs.length = 3) (h : DataW.trod enc Tryd.prog W 0 (fun _ => true) true n 23 cs = some x) :
    ∃ b : PAct, cs = actCells b := by
  match cs, hl with
  | [c0, c1, c2], _ =>
    obtain ⟨m0, y0, h0⟩ := trod_field Tryd.underlying23 h 0 _ rfl cells_intR
    obtain ⟨m1, y1, h1⟩ := trod_field Tryd.underlying23 h 1 _ rfl cells_intR
    obtain ⟨m2, y2, h2⟩ := trod_field Tryd.underlying23 h 2 _ rfl cells_intR
    obtain ⟨F, e1, _, _⟩ := DataW.trod_int Tryd.underlying3 h0
    obtain ⟨L, e2, _, _⟩ := DataW.trod_int Tryd.underlying3 h1
    obtain ⟨T, e3, _, _⟩ := DataW.trod_int Tryd.underlying3 h2
    simp at e1 e2 e3
    subst e1; subst e2; subst e3
    exact ⟨⟨F, L, T⟩, rfl⟩
theorem open_acts {H : Type} {enc : TypeId × Value → H} {W : World} {r : Reach} {b0 : Nat} {v : Value} {d : DataW H} {p : List MemPlace}
    (hv : Value.okWide Tryd.prog W r b0 29 v) (h : DataW.Trod enc Tryd.prog W 0 (fun _ => true) true 29 v d p) :
    ∃ (A : Option Addr) (c : Nat) (l : List PAct), v = .slice A l.length c ∧ Reads W W.heap.size 3 A l.length (l.flatMap actCells) ∧ l.length ≤ maxLen := by
  obtain ⟨fuel, hf⟩ := h
  obtain ⟨A, n, c, l, hcs, hR, hl, hm, _⟩ := reads_rows (α := PAct) (f := actCells) (Q := fun _ => True) actCells_len (by omega) Tryd.underlying29 cells_lactR hf (fun n cs' y hcl ht => by
    obtain ⟨b, hb⟩ := trod_lact hcl ht
    exact ⟨b, hb, trivial⟩)
  subst hl
  refine ⟨A, c, l, ?_, hR, hm⟩
  rcases okWide_slice Tryd.underlying29 hv with ⟨A', n', c', rfl⟩
  simpa [Value.cells] using hcs
end Go.Proofs.YtmnlinclbnbpoaaDoor
