/- Small words for laws with rows of several cells an element; a []Box argument of a law. -/
import Derived.Test.YtdkelaiadgechaaLawKit2
import Derived.Test.YtdkelaiadgechaaRowBox
import Derived.Test.YtdkelaiadgechaaLawStep
import Derived.Test.YtdkelaiadgechaaRows2
namespace Go.Proofs.Ytdkelaiadgechaa
open Go.ChangeShapes Go.WideShapes Go.ChangeAt Go.RowKit
set_option linter.unusedVariables false
set_option maxRecDepth 10000

section
variable {w w' : World} {base bg bx n m size size2 : Nat} {e e2 : TypeId} {v vg vx : Value} {xs : List Value}
theorem blk_markedk {g : Nat} {t : TypeId} {cs : Array Value} (h : w.heap[g]? = some (.cells cs t (0, 0))) (hg : w.grownBy w' v.ownBlock)
    (ho : w.ownsRow base e size v n xs) (hne : e ≠ t) : w'.heap[g]? = some (.cells cs t (0, 0)) := by
  refine (hg.block g (blk_lt h) ?_).trans h
  intro hv
  rcases ho.2 with ⟨rfl, _⟩ | ⟨g', cap, cur, rfl, _, hh, _⟩
  · simp [Value.ownBlock] at hv
  · have : g = g' := by simpa [Value.ownBlock] using hv
    subst this
    rw [h] at hh
    injection hh with hh
    injection hh with _ h2
    exact hne h2.symm
theorem own_newerk (hg : w.ownsRow bg e size vg n xs) (hx : ∀ k, vx.ownBlock = some k → k < bg) (h : w.grownBy w' vx.ownBlock) : w'.ownsRow bg e size vg n xs := by
  refine hg.kept h ?_
  cases hv : vg.ownBlock with
  | none => exact .inl rfl
  | some k =>
    refine .inr ?_
    intro he
    have h1 := (hg.lt k hv).1
    have h2 := hx k he.symm
    omega
theorem own_elderk (hg : w.ownsRow bg e size vg n xs) (hlt : ∀ k, vg.ownBlock = some k → k < bx) (hx : ∀ k, vx.ownBlock = some k → bx ≤ k) (h : w.grownBy w' vx.ownBlock) : w'.ownsRow bg e size vg n xs := by
  refine hg.kept h ?_
  cases hv : vg.ownBlock with
  | none => exact .inl rfl
  | some k =>
    refine .inr ?_
    intro he
    have h1 := hlt k hv
    have h2 := hx k he.symm
    omega
theorem below_markedk {B : Nat} (ho : w.ownsRow bx e size v n xs) (hg : w.grownBy w' v.ownBlock) (h1 : B ≤ bx) (h2 : B ≤ w.heap.size) : Below B w w' :=
  grown_below hg (fun k hk => Nat.le_trans h1 (ho.lt k hk).1) h2
theorem ltbk (h : w.ownsRow base e size v n xs) : ∀ k, v.ownBlock = some k → k < w.heap.size := fun k hk => (h.lt k hk).2
theorem gebk (h : w.ownsRow base e size v n xs) : ∀ k, v.ownBlock = some k → base ≤ k := fun k hk => (h.lt k hk).1
end
def szN (n : Nat) (left : Int) : Int := if left - n < 0 then -1 else left - n
theorem sz_ub_n (n : Nat) (l : Int) (h : l ≤ 1048576) : szN n l ≤ 1048576 := by unfold szN; split <;> omega
theorem n_of_sz {n : Nat} {l : Int} (hl : l ≤ 1048576) (h : 0 ≤ szN n l) : n ≤ 1048576 := by unfold szN at h; split at h <;> omega
set_option maxHeartbeats 400000 in
theorem l_szBoxS (A : Option Addr) (n c : Nat) (left : Int) (w : World) (hn : n ≤ 9223372036854775807) (h0 : -1 ≤ left) (h1 : left ≤ 1048576) :
    Calls Try.prog 37 #[.slice A n c, .int .i64 left] w fun e w' => e = .returned (.int .i64 (szN n left)) ∧ w = w' := by
  by_cases h : left - n < 0
  · have HF := Lib.hid (show szN n left = -1 by unfold szN; rw [if_pos h])
    go_enter Try.func37, Try.ntmps37
    go_wp2
    go_ret
    exact ⟨ret_int HF.out.symm, rfl⟩
  · have HF := Lib.hid (show szN n left = left - n by unfold szN; rw [if_neg h])
    go_enter Try.func37, Try.ntmps37
    go_wp2
    go_ret
    exact ⟨ret_int HF.out.symm, rfl⟩
theorem boxes_of_own {w : World} {base n c : Nat} {A : Option Addr} {l : List PBox} (h : w.ownsRow base 32 3 (.slice A n c) n (l.flatMap boxCells)) (hn : n ≤ 16777216) : Boxes w w.heap.size A n l := ⟨Reads.of_own h, hn⟩
theorem trod_lbox {H : Type} {enc : TypeId × Value → H} {W : World} {n : Nat} {cs : List Value} {x : DataW H × List MemPlace} (hl : cs.length = 3) (h : DataW.trod enc Try.prog W 0 (fun _ => true) true n 26 cs = some x) :
    ∃ b : PBox, cs = boxCells b := by
  match cs, hl with
  | [c0, c1, c2], _ =>
    obtain ⟨m0, y0, h0⟩ := trod_field Try.underlying26 h 0 _ rfl cells_int
    obtain ⟨m1, y1, h1⟩ := trod_field Try.underlying26 h 1 _ rfl cells_int
    obtain ⟨m2, y2, h2⟩ := trod_field Try.underlying26 h 2 _ rfl cells_int
    obtain ⟨F, e1, _, _⟩ := DataW.trod_int Try.underlying3 h0
    obtain ⟨L, e2, _, _⟩ := DataW.trod_int Try.underlying3 h1
    obtain ⟨T, e3, _, _⟩ := DataW.trod_int Try.underlying3 h2
    simp at e1 e2 e3
    subst e1; subst e2; subst e3
    exact ⟨⟨F, L, T⟩, rfl⟩
theorem open_boxs {H : Type} {enc : TypeId × Value → H} {W : World} {r : Reach} {b0 : Nat} {v : Value} {d : DataW H} {p : List MemPlace}
    (hv : Value.okWide Try.prog W r b0 51 v) (h : DataW.Trod enc Try.prog W 0 (fun _ => true) true 51 v d p) :
    ∃ (A : Option Addr) (n c : Nat) (l : List PBox), v = .slice A n c ∧ Reads W W.heap.size 3 A n (l.flatMap boxCells) ∧ l.length = n ∧ n ≤ maxLen := by
  obtain ⟨fuel, hf⟩ := h
  obtain ⟨A, n, c, l, hcs, hR, hl, hm, _⟩ := reads_rows (α := PBox) (f := boxCells) (Q := fun _ => True) boxCells_len (by omega) Try.underlying51 cells_lbox2 hf (fun n cs' y hcl ht => by
    obtain ⟨b, hb⟩ := trod_lbox hcl ht
    exact ⟨b, hb, trivial⟩)
  refine ⟨A, n, c, l, ?_, hR, hl, hm⟩
  rcases okWide_slice Try.underlying51 hv with ⟨A', n', c', rfl⟩
  simpa [Value.cells] using hcs
end Go.Proofs.Ytdkelaiadgechaa
