/- A Draft argument of a law opened. -/
import Derived.Test.YtdddglihomchfaaGreatDraft1
import Derived.Test.YtdddglihomchfaaGreatRows2
import Derived.Test.YtdddglihomchfaaGreatLift
namespace Go.Proofs.YtdddglihomchfaaGreat
open Go.ChangeShapes Go.WideShapes Go.ChangeAt Go.RowKit
set_option linter.unusedVariables false
set_option maxRecDepth 10000

theorem OkDraft.more {D : PDraft} {m k : Nat} (h : OkDraft D m) (hm : m ≤ k) : OkDraft D k := ⟨by have := h.l1; omega, by have := h.l2; omega, by have := h.l3; omega, h.z1, h.z2, h.z3⟩
theorem RdDraft.ok {w : World} {B : Nat} {A1 A2 A3 : Option Addr} {D : PDraft} (h : RdDraft w B A1 A2 A3 D) : OkDraft D 16777216 := ⟨h.s1.nb, h.s2.nb, h.st.nb, h.s1.sb, h.s2.sb, h.st.sb⟩
/-- how a draft's rows read, whatever their lengths -/
structure RawDraft (w : World) (B : Nat) (A1 A2 A3 : Option Addr) (D : PDraft) : Prop where
  r1 : Reads w B 1 A1 D.ss1.length (D.ss1.map Value.string)
  r2 : Reads w B 1 A2 D.ss2.length (D.ss2.map Value.string)
  r3 : Reads w B 7 A3 D.st.length (D.st.flatMap stepCells)
  n1 : D.ss1.length ≤ 9223372036854775807
  n2 : D.ss2.length ≤ 9223372036854775807
  n3 : D.st.length ≤ 9223372036854775807
  z1 : ∀ s ∈ D.ss1, s.size ≤ 9223372036854775807
  z2 : ∀ s ∈ D.ss2, s.size ≤ 9223372036854775807
  z3 : ∀ s ∈ D.st, s.b.size ≤ 9223372036854775807 ∧ s.a.size ≤ 9223372036854775807
theorem RawDraft.below {w w' : World} {B : Nat} {A1 A2 A3 : Option Addr} {D : PDraft} (h : RawDraft w B A1 A2 A3 D) (hb : Below B w w') : RawDraft w' B A1 A2 A3 D := ⟨h.r1.below hb, h.r2.below hb, h.r3.below hb, h.n1, h.n2, h.n3, h.z1, h.z2, h.z3⟩
theorem RdDraft.raw {w : World} {B : Nat} {A1 A2 A3 : Option Addr} {D : PDraft} (h : RdDraft w B A1 A2 A3 D) : RawDraft w B A1 A2 A3 D :=
  ⟨h.s1.rd, h.s2.rd, h.st.rd, by have := h.s1.nb; omega, by have := h.s2.nb; omega, by have := h.st.nb; omega, fun s hs => by have := h.s1.sb s hs; omega, fun s hs => by have := h.s2.sb s hs; omega, fun s hs => by have := h.st.sb s hs; omega⟩
theorem draft_of_sz {w : World} {A1 A2 A3 : Option Addr} {D : PDraft} {l : Int} (h : RawDraft w w.heap.size A1 A2 A3 D) (hl : l ≤ 1048576) (hz : 0 ≤ szD D l) : RdDraft w w.heap.size A1 A2 A3 D ∧ OkDraft D 1048576 := by
  unfold szD at hz
  split at hz
  · omega
  · split at hz
    · omega
    · obtain ⟨h1, n1⟩ := strs_of_szl h.r1 hl (by omega)
      have u1 := sz_ub D.ss1 l hl
      obtain ⟨h2, n2⟩ := strs_of_szl h.r2 u1 (by omega)
      have u2 := sz_ub D.ss2 _ u1
      obtain ⟨h3, n3⟩ := steps_of_szl h.r3 u2 hz
      exact ⟨⟨h1, h2, h3⟩, ⟨n1, n2, n3, h1.sb, h2.sb, h3.sb⟩⟩
theorem l_szDraft2 (D : PDraft) (B : Nat) (A1 A2 A3 : Option Addr) (c1 c2 c3 : Nat) (left : Int) (w : World) (hB : B ≤ w.heap.size) (hR : RawDraft w B A1 A2 A3 D) (h0 : -1 ≤ left) (h1 : left ≤ 1048576) :
    Calls Tryz.prog 59 #[.agg (draftV D A1 c1 A2 c2 A3 c3), .int .i64 left] w fun e w' => e = .returned (.int .i64 (szD D left)) ∧ Below w.heap.size w w' :=
  l_szDraft D B A1 A2 A3 c1 c2 c3 left w hB hR.r1 hR.r2 hR.r3 hR.n1 hR.n2 hR.n3 hR.z1 hR.z2 hR.z3 h0 h1

theorem l_toDraft2 (d1 f1 : Int) (ss1 : List ByteArray) (d2 f2 : Int) (ss2 : List ByteArray) (st : List PStep) (B : Nat) (A1 A2 A3 : Option Addr) (c1 c2 c3 : Nat) (w : World) (hS : RdDraft w B A1 A2 A3 ⟨d1, f1, ss1, d2, f2, ss2, st⟩) (hB : B ≤ w.heap.size) :
    Calls Tryz.prog 66 #[.agg #[.int .i64 d1, .int .i64 f1, .slice A1 ss1.length c1, .int .i64 d2, .int .i64 f2, .slice A2 ss2.length c2, .slice A3 st.length c3]] w fun e w' =>
      ∃ B1 e1 B2 e2 B3 e3, e = .returned (.agg #[.int .i64 d1, .int .i64 f1, .slice B1 ss1.length e1, .int .i64 d2, .int .i64 f2, .slice B2 ss2.length e2, .slice B3 st.length e3]) ∧ OwnDraft w' w.heap.size B1 e1 B2 e2 B3 e3 ⟨d1, f1, ss1, d2, f2, ss2, st⟩ ∧ Below w.heap.size w w' :=
  l_toDraft ⟨d1, f1, ss1, d2, f2, ss2, st⟩ B A1 A2 A3 c1 c2 c3 w hS hB
theorem cells_lcard3 : Tryz.prog.cellsOf 24 = 3 := by kernel_rfl
theorem cells_steps : Tryz.prog.cellsOf 25 = 1 := by kernel_rfl
theorem cells_sl : Tryz.prog.cellsOf 22 = 1 := by kernel_rfl
theorem cells_ldraft : Tryz.prog.cellsOf 27 = 7 := by kernel_rfl
theorem trod_card {H : Type} {enc : TypeId × Value → H} {W : World} {n : Nat} {c0 c1 c2 : Value} {x : DataW H × List MemPlace} (h : DataW.trod enc Tryz.prog W 0 (fun _ => true) true n 24 [c0, c1, c2] = some x) :
    ∃ (d f : Int) (A : Option Addr) (c : Nat) (ss : List ByteArray), c0 = .int .i64 d ∧ c1 = .int .i64 f ∧ c2 = .slice A ss.length c ∧ Reads W W.heap.size 1 A ss.length (ss.map Value.string) ∧ ss.length ≤ maxLen ∧ ∀ s ∈ ss, s.size ≤ maxLen := by
  obtain ⟨m0, y0, h0⟩ := trod_field Tryz.underlying24 h 0 _ rfl cells_int
  obtain ⟨m1, y1, h1⟩ := trod_field Tryz.underlying24 h 1 _ rfl cells_int
  obtain ⟨m2, y2, h2⟩ := trod_field Tryz.underlying24 h 2 _ rfl cells_sl
  obtain ⟨d, e0, _, _⟩ := DataW.trod_int Tryz.underlying3 h0
  obtain ⟨f, e1, _, _⟩ := DataW.trod_int Tryz.underlying3 h1
  obtain ⟨A, n, c, ss, e2, hR, hm, hs⟩ := reads_strings h2
  simp at e0 e1 e2
  have hl : ss.length = n := by have := hR.1; simpa using this
  subst hl
  exact ⟨d, f, A, c, ss, e0, e1, e2, hR, hm, hs⟩
theorem trod_steps {H : Type} {enc : TypeId × Value → H} {W : World} {n : Nat} {c0 : Value} {x : DataW H × List MemPlace} (h : DataW.trod enc Tryz.prog W 0 (fun _ => true) true n 25 [c0] = some x) :
    ∃ (A : Option Addr) (c : Nat) (l : List PStep), c0 = .slice A l.length c ∧ Reads W W.heap.size 7 A l.length (l.flatMap stepCells) ∧ l.length ≤ maxLen ∧ ∀ s ∈ l, s.b.size ≤ maxLen ∧ s.a.size ≤ maxLen := by
  obtain ⟨A, n, c, l, hcs, hR, hl, hm, hq⟩ := reads_rows (α := PStep) (f := stepCells) (Q := fun s => s.b.size ≤ maxLen ∧ s.a.size ≤ maxLen) stepCells_len (by omega) Tryz.underlying25 cells_lstep h (fun n cs' y hcl ht => by
    match cs', hcl with
    | [c0, c1, c2, c3, c4, c5, c6], _ =>
      obtain ⟨K, F, L, T, I, b, a, he, hb, ha⟩ := trod_step ht
      exact ⟨⟨K, F, L, T, I, b, a⟩, he, hb, ha⟩)
  subst hl
  simp at hcs
  exact ⟨A, c, l, hcs, hR, hm, hq⟩
theorem open_draft {H : Type} {enc : TypeId × Value → H} {W : World} {r : Reach} {b0 : Nat} {v : Value} {d : DataW H} {p : List MemPlace}
    (hv : Value.okWide Tryz.prog W r b0 27 v) (h : DataW.Trod enc Tryz.prog W 0 (fun _ => true) true 27 v d p) :
    ∃ (d1 f1 : Int) (ss1 : List ByteArray) (d2 f2 : Int) (ss2 : List ByteArray) (st : List PStep) (A1 A2 A3 : Option Addr) (c1 c2 c3 : Nat), v = .agg #[.int .i64 d1, .int .i64 f1, .slice A1 ss1.length c1, .int .i64 d2, .int .i64 f2, .slice A2 ss2.length c2, .slice A3 st.length c3] ∧ RawDraft W W.heap.size A1 A2 A3 ⟨d1, f1, ss1, d2, f2, ss2, st⟩ := by
  obtain ⟨cs, rfl, hsz⟩ := okWide_struct Tryz.underlying27 hv
  obtain ⟨c0, c1, c2, c3, c4, c5, c6, rfl⟩ := array7 (hsz.trans cells_ldraft)
  obtain ⟨fuel, hf⟩ := h
  have hf' : DataW.trod enc Tryz.prog W 0 (fun _ => true) true fuel 27 [c0, c1, c2, c3, c4, c5, c6] = some (d, p) := by simpa [Value.cells] using hf
  obtain ⟨m0, y0, h0⟩ := trod_field Tryz.underlying27 hf' 0 _ rfl cells_lcard3
  obtain ⟨m1, y1, h1⟩ := trod_field Tryz.underlying27 hf' 1 _ rfl cells_lcard3
  obtain ⟨m2, y2, h2⟩ := trod_field Tryz.underlying27 hf' 2 _ rfl cells_steps
  obtain ⟨d1, f1, A1, e1, ss1, rfl, rfl, rfl, hR1, hm1, hz1⟩ := trod_card h0
  obtain ⟨d2, f2, A2, e2, ss2, rfl, rfl, rfl, hR2, hm2, hz2⟩ := trod_card h1
  obtain ⟨A3, e3, st, rfl, hR3, hm3, hz3⟩ := trod_steps h2
  unfold maxLen at hm1 hm2 hm3 hz1 hz2 hz3
  exact ⟨d1, f1, ss1, d2, f2, ss2, st, A1, A2, A3, e1, e2, e3, rfl, ⟨hR1, hR2, hR3, hm1, hm2, hm3, hz1, hz2, hz3⟩⟩
end Go.Proofs.YtdddglihomchfaaGreat
