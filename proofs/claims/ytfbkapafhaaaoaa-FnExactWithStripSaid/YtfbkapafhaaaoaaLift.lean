/- From a walk to a law's row: what every law's main proof shares; a card argument opened. -/
import Derived.Test.YtfbkapafhaaaoaaLawKit
import Derived.Deep.Slices
import Derived.SliceStrings
import Derived.Lib.SmallJoins
import Derived.HandedShaped
namespace Go.Proofs.Ytfbkapafhaaaoaa
open Go.ChangeShapes Go.WideShapes Go.ChangeAt Go.RowKit
set_option linter.unusedVariables false

theorem own0 : ownKnob Try.prog.godebug = none := by kernel_rfl
theorem laid0 : laidOutB Try.prog = true := by kernel_rfl

theorem trodAll_stays {H : Type} {enc : TypeId × Value → H} {W W' : World} (hb : Below W.heap.size W W') {sp : Nat → Bool} :
    ∀ (ts : List TypeId) (vs : List Value) (ds : List (DataW H)) (ps : List MemPlace), (∀ t ∈ ts, Try.prog.readableRec t = true ∧ t < Try.prog.types.size) →
      DataW.TrodAll enc Try.prog W 0 (fun _ => true) true ts vs ds ps → (∀ p ∈ ps, p.block < W.heap.size) → (∀ p ∈ ps, sp p.block = true) → DataW.TrodAll enc Try.prog W' 0 sp true ts vs ds ps
  | [], vs, ds, ps, _, h, _, _ => by
    cases vs <;> cases ds <;> simp [DataW.TrodAll] at h ⊢
    exact h
  | t :: ts, vs, ds, ps, hr, h, hlt, hsp => by
    obtain ⟨v, vs', d, ds', p, q, rfl, rfl, rfl, h1, h2⟩ := trodAll_cons h
    have hr0 := hr t (List.mem_cons_self)
    exact ⟨p, q, WideElems.Trod_stays laid0 hr0.1 hr0.2 h1 (fun x hx => hb.same (hlt x (List.mem_append_left _ hx))) (fun x hx => hsp x (List.mem_append_left _ hx)),
      trodAll_stays hb ts vs' ds' q (fun t' ht => hr t' (List.mem_cons_of_mem _ ht)) h2 (fun x hx => hlt x (List.mem_append_right _ hx)) (fun x hx => hsp x (List.mem_append_right _ hx)), rfl⟩

/-- what a law's row asks behind the call -/
theorem post_law {H : Type} {enc : TypeId × Value → H} {f : Func} {s : ChangeSpec} {W W' : World} {args : Array Value} {ds gs : List (DataW H)} {before : List MemPlace}
    (hW : DataW.Whole enc Try.prog f.params.toList s.vars false W args.toList ds gs before) (hv : s.vars = []) (hr : ∀ t ∈ f.params.toList, Try.prog.readableRec t = true ∧ t < Try.prog.types.size)
    (hf : f.resultTypes = #[4]) (hfn : ds.length = f.params.size → s.fn H (ds ++ []) = { results := [.lit (.bool true)], args := ds }) (hb : Below W.heap.size W W') :
    s.post enc Try.prog f false true false false W args (.bool true) W' := by
  have hW' := hW
  obtain ⟨p, q, hA0, hV, hbe, hfz, hnd⟩ := hW
  rw [hv] at hV
  obtain ⟨rfl, rfl⟩ := trodVars_none hV
  simp only [List.append_nil] at hbe
  subst hbe
  have hlen : ds.length = f.params.size := by
    have : ∀ (ts : List TypeId) (vs : List Value) (ds : List (DataW H)) (ps : List MemPlace), DataW.TrodAll enc Try.prog W 0 (fun _ => true) true ts vs ds ps → ds.length = ts.length := by
      intro ts
      induction ts with
      | nil => intro vs ds ps h; cases vs <;> cases ds <;> simp [DataW.TrodAll] at h ⊢
      | cons t ts ih =>
        intro vs ds ps h
        obtain ⟨v, vs', d, ds', p, q, rfl, rfl, rfl, h1, h2⟩ := trodAll_cons h
        simp [ih _ _ _ h2]
    have h := this _ _ _ _ hA0
    simpa using h
  have hfn' := hfn hlen
  refine post_of_below (pa := before) (pv := []) (gs := []) hW' ?_ ?_ ?_ (by simp) hb ?_
  · intro b sp hd
    rw [hfn', hf]
    exact trodAll_mk1 (shut_bool Try.underlying4 true)
  · intro sp hsp
    rw [hfn']
    exact trodAll_stays hb _ _ _ _ hr hA0 (fun x hx => hW'.lt x hx) hsp
  · intro sp _
    rw [hv, hfn']
    rfl
  · intro j t r ht hr2
    rw [hf] at ht hr2
    have hj : j = 0 := by
      rcases Nat.eq_zero_or_pos j with h | h
      · exact h
      · rw [Array.getElem?_eq_none (by simp; omega)] at ht; cases ht
    subst hj
    simp at ht hr2
    subst ht
    have : r = .bool true := by
      simp [Value.resultList] at hr2; exact hr2.symm
    subst this
    exact okWide_bool_mk Try.underlying4 true

theorem cells_str : Try.prog.cellsOf 9 = 1 := by kernel_rfl
theorem cells_lcard : Try.prog.cellsOf 32 = 3 := by kernel_rfl

theorem reads_strings {H : Type} {enc : TypeId × Value → H} {W : World} {n : Nat} {cs : List Value} {x : DataW H × List MemPlace} (h : DataW.trod enc Try.prog W 0 (fun _ => true) true n 30 cs = some x) :
    ∃ (A : Option Addr) (len c : Nat) (ss : List ByteArray), cs = [.slice A len c] ∧ Reads W W.heap.size 1 A len (ss.map Value.string) ∧ len ≤ maxLen ∧ ∀ s ∈ ss, s.size ≤ maxLen := by
  rcases open_strings Try.underlying30 Try.underlying9 cells_str h with ⟨hcs, _⟩ | ⟨a, len, cap, ss, hcs, _, hl, hm, hz, hx, hcell, hws⟩
  · exact ⟨none, 0, 0, [], hcs, Reads.none_, by unfold maxLen; omega, fun s hs => by cases hs⟩
  · refine ⟨some a, len, cap, ss.take len, hcs, ⟨?_, fun h0 => ⟨a, rfl, ?_, ?_⟩⟩, by omega, fun s hs => hws s (List.mem_of_mem_take hs)⟩
    · simp at hz
      simp [List.length_take]; omega
    · have h1 := hcell 0 (by simp at hz; omega)
      have h2 := World.block_lt_of_cell? W _ h1
      rwa [block_of_add] at h2
    · intro j u hu
      rw [List.getElem?_map] at hu
      by_cases hj : j < len
      · have h1 := hcell j (by simp at hz; omega)
        rw [h1]
        rw [List.getElem?_take, if_pos hj] at hu
        have hjl : j < ss.length := by simp at hz; omega
        rw [List.getElem?_eq_getElem hjl] at hu
        simp [List.getD, List.getElem?_eq_getElem hjl] at hu ⊢
        exact hu
      · rw [List.getElem?_take, if_neg hj] at hu
        cases hu

theorem open_card {H : Type} {enc : TypeId × Value → H} {W : World} {r : Reach} {b0 : Nat} {v : Value} {d : DataW H} {p : List MemPlace}
    (hv : Value.okWide Try.prog W r b0 32 v) (h : DataW.Trod enc Try.prog W 0 (fun _ => true) true 32 v d p) :
    ∃ (dn fw : Int) (A : Option Addr) (n c : Nat) (ss : List ByteArray), v = .agg #[.int .i64 dn, .int .i64 fw, .slice A n c] ∧ Reads W W.heap.size 1 A n (ss.map Value.string) ∧ n ≤ maxLen ∧ (∀ s ∈ ss, s.size ≤ maxLen) ∧
      (Lit.int .i64 dn).wf = true ∧ (Lit.int .i64 fw).wf = true := by
  obtain ⟨v0, v1, v2, y0, y1, y2, n, rfl, _, _, h0, h1, h2⟩ := Joins.open_agg3 Try.underlying32 (by kernel_rfl) cells_lcard hv h
  obtain ⟨a, e0, _, wa⟩ := DataW.trod_int Try.underlying3 h0
  obtain ⟨b, e1, _, wb⟩ := DataW.trod_int Try.underlying3 h1
  obtain ⟨A, len, c, ss, e2, hR, hm, hs⟩ := reads_strings h2
  simp at e0 e1 e2
  subst e0; subst e1; subst e2
  exact ⟨a, b, A, len, c, ss, rfl, hR, hm, hs, wa, wb⟩
theorem strs_of_sz {W : World} {A : Option Addr} {n : Nat} {ss : List ByteArray} (hR : Reads W W.heap.size 1 A n (ss.map Value.string)) (hz : 0 ≤ szStrs ss 1048576) : Strs W W.heap.size A n ss ∧ n ≤ 1048576 := by
  have hl : ss.length = n := by have := hR.1; simpa using this
  unfold szStrs at hz
  split at hz
  · omega
  · exact ⟨⟨hR, by omega, fun s hs => by have := tot_mem hs; omega⟩, by omega⟩
end Go.Proofs.Ytfbkapafhaaaoaa
