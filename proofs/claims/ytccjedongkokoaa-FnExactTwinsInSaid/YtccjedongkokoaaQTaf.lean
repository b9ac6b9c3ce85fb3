/- Contracts of the program's and the reference's functions (TwinP). -/
import Derived.Test.YtccjedongkokoaaRows
import Derived.Test.YtccjedongkokoaaQTi
import Derived.Test.YtccjedongkokoaaQTaa
import Derived.Test.YtccjedongkokoaaQTb
import Derived.Test.YtccjedongkokoaaQTo
import Derived.Test.YtccjedongkokoaaQTa
namespace Go.Proofs.Ytccjedongkokoaa
open Go.ChangeShapes Go.WideShapes Go.ChangeAt Go.RowKit
set_option linter.unusedVariables false
set_option linter.unusedSimpArgs false
set_option maxRecDepth 10000
section
variable {P : Program} {w : World}
theorem wpList_append_G {ops : Array Oper} {rest : List Oper} {o : Oper} {a : Act} {Q : Exit → Act → World → Prop} (hgd : o.guard = none) (s x : Operand) (t : TypeId)
    (ho : o.op = .call { callee := .builtin .append, args := #[s, x], argTypes := #[t, t] })
    (base : Nat) (e : TypeId) (i : TypeInfo) (z : Value) (size bytes : Nat) (ht : P.underlying t = some (.slice e)) (hi : P.info? e = some i) (hz : i.zero = some z)
    (hsize : i.size = size) (hby : i.bytes = bytes) (hzs : z.cells.size = size) (hsz : 0 < size)
    (v : Value) (n : Nat) (xs : List Value) (hs : a.eval s = v) (hown : w.ownsRow base e size v n xs)
    (B : Nat) (A : Option Addr) (m c : Nat) (news : List Value) (hx : a.eval x = .slice A m c) (hr : Reads w B size A m news) (h1 : ∀ u ∈ news, u.oneCell' = true)
    (h63 : n + m ≤ maxLen) (hbytes : (n + m) * bytes ≤ 140737488355328) (hbase : base ≤ w.heap.size)
    (N : Nat) (ys : List Value) (hN : n + m = N) (hys : xs ++ news = ys) (h : ∀ A' c' w', w'.ownsRow base e size (.slice A' N c') N ys → Below base w w' → w.grownBy w' v.ownBlock → ((Value.slice A' N c').ownBlock = v.ownBlock ∨ (Value.slice A' N c').ownBlock = some w.heap.size) → wpList P ops Q rest (a.put o.dst (.slice A' N c')) w') : wpList P ops Q (o :: rest) a w := by
  refine wpList_append_any w hgd s x t ho base e i z size bytes ht hi hz hsize hby hzs hsz v n xs hs hown B A m c news hx hr h1 h63 hbytes hbase ?_
  subst hN; subst hys
  intro v' w' h2 h3 h4
  obtain ⟨A', c', rfl⟩ := own_slice h2
  exact h A' c' w' h2 (grown_below h3 (fun k hk => (hown.lt k hk).1) hbase) h3 h4
end
def twin1 (x y : PItem) : Bool := sameCard x.d x.f y.d y.f x.ss y.ss
def twin2 (x y : PItem) : Bool := sameCard x.d x.f (mirrorRes y.d y.f y.ss).1 (mirrorRes y.d y.f y.ss).2.1 x.ss (mirrorRes y.d y.f y.ss).2.2
def twin (x y : PItem) : Bool := twin1 x y || twin2 x y
def twAt (P : List PItem) (i k : Nat) : Bool := match P[i]?, P[k]? with
  | some x, some y => twin x y
  | _, _ => false
theorem twAt_get {P : List PItem} {i k : Nat} {x y : PItem} (h : P[i]? = some x) (h2 : P[k]? = some y) : twAt P i k = twin x y := by unfold twAt; rw [h, h2]
def twRow (P : List PItem) (i k : Nat) : List (Nat × Nat) := ((List.range k).filter (fun b => decide (i < b) && twAt P i b)).map (fun b => (i, b))
def twUp (P : List PItem) (i k : Nat) : List (Nat × Nat) := (List.range i).flatMap (fun a => twRow P a P.length) ++ twRow P i k
def twAll (P : List PItem) : List (Nat × Nat) := (List.range P.length).flatMap (fun a => twRow P a P.length)
def twRes (P : List PItem) : List (Nat × Nat) := if catOk P = true then twAll P else []
theorem twRow_none (P : List PItem) (i k : Nat) (h : k ≤ i + 1) : twRow P i k = [] := by
  unfold twRow
  rw [List.map_eq_nil_iff, List.filter_eq_nil_iff]
  intro b hb
  have := List.mem_range.1 hb
  simp; omega
theorem twRow_yes {P : List PItem} {i k : Nat} (hik : i < k) (h : twAt P i k = true) : twRow P i (k + 1) = twRow P i k ++ [(i, k)] := by
  unfold twRow
  rw [List.range_succ, List.filter_append, List.map_append]
  simp [hik, h]
theorem twRow_no {P : List PItem} {i k : Nat} (h : twAt P i k = false) : twRow P i (k + 1) = twRow P i k := by
  unfold twRow
  rw [List.range_succ, List.filter_append, List.map_append]
  simp [h]
theorem twUp_yes {P : List PItem} {i k : Nat} (hik : i < k) (h : twAt P i k = true) : twUp P i (k + 1) = twUp P i k ++ [(i, k)] := by
  unfold twUp; rw [twRow_yes hik h, List.append_assoc]
theorem twUp_no {P : List PItem} {i k : Nat} (h : twAt P i k = false) : twUp P i (k + 1) = twUp P i k := by
  unfold twUp; rw [twRow_no h]
theorem twUp_zero (P : List PItem) : twUp P 0 (0 + 1) = [] := by unfold twUp; rw [twRow_none _ _ _ (by omega)]; rfl
theorem twUp_next (P : List PItem) (i : Nat) : twUp P (i + 1) (i + 1 + 1) = twUp P i P.length := by
  unfold twUp
  rw [twRow_none _ _ _ (Nat.le_refl _), List.range_succ, List.flatMap_append]
  simp
theorem twUp_end (P : List PItem) : twUp P P.length (P.length + 1) = twAll P := by
  unfold twUp twAll
  rw [twRow_none _ _ _ (Nat.le_refl _), List.append_nil]
theorem twRow_len (P : List PItem) (i k : Nat) : (twRow P i k).length ≤ k := by
  unfold twRow
  rw [List.length_map]
  exact Nat.le_trans (List.length_filter_le _ _) (by rw [List.length_range]; exact Nat.le_refl _)
theorem twUp_len (P : List PItem) (i k : Nat) (h : P.length ≤ 20) (hi : i ≤ 20) (hk : k ≤ 21) : (twUp P i k).length ≤ 421 := by
  unfold twUp
  rw [List.length_append]
  have h1 := twRow_len P i k
  have h2 : ∀ i, i ≤ 20 → ((List.range i).flatMap (fun a => twRow P a P.length)).length ≤ i * 20 := by
    intro i hi
    induction i with
    | zero => simp
    | succ i ih =>
      have := ih (by omega)
      have h3 := twRow_len P i P.length
      rw [List.range_succ, List.flatMap_append, List.length_append]
      simp only [List.flatMap_cons, List.flatMap_nil, List.append_nil]
      omega
  have := h2 i hi
  omega
def pv (b : Nat) : Value := .slice (some ⟨b, 0, none⟩) 2 2
structure OwnPP (w : World) (lo hi : Nat) (A : Option Addr) (N c : Nat) (l : List (Nat × Nat)) (bs : List Nat) : Prop where
  row : w.ownsRow lo 64 1 (.slice A N c) N (bs.map pv)
  top : ∀ k, (Value.slice A N c).ownBlock = some k → k < hi
  ll : l.length = N
  bl : bs.length = N
  blk : ∀ i (h : i < l.length) (h' : i < bs.length), w.heap[bs[i]]? = some (.cells #[.int .i64 (l[i].1 : Int), .int .i64 (l[i].2 : Int)] 3 (0, 0)) ∧ lo ≤ bs[i] ∧ bs[i] < hi
  nd : bs.Nodup
theorem reads_pv (W : World) (x y : Int) : Reads ((W.alloc (.cells #[.int .i64 x, .int .i64 y] 3)).alloc (.cells #[pv W.heap.size] 64)) (W.heap.size + 1 + 1) 1 (some ⟨W.heap.size + 1, 0, none⟩) 1 [pv W.heap.size] := by
  have h := reads_one (W := W.alloc (.cells #[.int .i64 x, .int .i64 y] 3)) (pv W.heap.size) 64
  have e : (W.alloc (.cells #[.int .i64 x, .int .i64 y] 3)).heap.size = W.heap.size + 1 := by simp
  rw [e] at h
  exact h
section
variable {w w' : World} {lo hi lo' hi' N c : Nat} {A : Option Addr} {l : List (Nat × Nat)} {bs : List Nat}
theorem OwnPP.below (h : OwnPP w lo hi A N c l bs) (hb : Below w.heap.size w w') : OwnPP w' lo hi A N c l bs :=
  ⟨own_below h.row hb, h.top, h.ll, h.bl, fun i a b => ⟨blk_next (h.blk i a b).1 hb, (h.blk i a b).2⟩, h.nd⟩
theorem OwnPP.wide (h : OwnPP w lo hi A N c l bs) (h1 : lo' ≤ lo) (h2 : hi ≤ hi') : OwnPP w lo' hi' A N c l bs :=
  ⟨own_base h.row h1, fun k hk => by have := h.top k hk; omega, h.ll, h.bl, fun i a b => ⟨(h.blk i a b).1, by have := (h.blk i a b).2; omega⟩, h.nd⟩
theorem OwnPP.alloc (h : OwnPP w lo hi A N c l bs) (o : Obj) : OwnPP (w.alloc o) lo hi A N c l bs :=
  ⟨h.row.alloc _, h.top, h.ll, h.bl, fun i a b => ⟨blk_alloc (h.blk i a b).1 _, (h.blk i a b).2⟩, h.nd⟩
theorem OwnPP.nil (w : World) (lo : Nat) (hl : lo ≤ w.heap.size) : OwnPP (w.alloc (.cells #[] 64)) lo (w.alloc (.cells #[] 64)).heap.size (some ⟨w.heap.size, 0, none⟩) 0 0 [] [] :=
  ⟨made_at (e := 64) (size := 1) w lo w.heap.size rfl hl, fun k hk => by simp [Value.ownBlock] at hk; simp; omega, rfl, rfl, fun i h => absurd h (by simp), List.nodup_nil⟩
theorem OwnPP.none (w : World) (lo hi : Nat) : OwnPP w lo hi none 0 0 [] [] :=
  ⟨World.ownsRow_nil _ _ _ _, fun k hk => by simp [Value.ownBlock] at hk, rfl, rfl, fun i h => absurd h (by simp), List.nodup_nil⟩
theorem OwnPP.snoc {w3 : World} {A2 : Option Addr} {c2 x y : Nat} (h : OwnPP w lo w.heap.size A N c l bs) (hlo : lo ≤ w.heap.size)
    (ho : w3.ownsRow lo 64 1 (.slice A2 (N + 1) c2) (N + 1) (bs.map pv ++ [pv w.heap.size]))
    (hg : ((w.alloc (.cells #[.int .i64 (x : Int), .int .i64 (y : Int)] 3)).alloc (.cells #[pv w.heap.size] 64)).grownBy w3 (Value.slice A N c).ownBlock) :
    OwnPP w3 lo w3.heap.size A2 (N + 1) c2 (l ++ [(x, y)]) (bs ++ [w.heap.size]) := by
  have hr2 := (h.row.alloc (.cells #[.int .i64 (x : Int), .int .i64 (y : Int)] 3)).alloc (.cells #[pv w.heap.size] 64)
  have hsz := hg.size
  simp only [World.alloc, Array.size_push] at hsz
  refine ⟨?_, fun k hk => (ho.lt k hk).2, ?_, ?_, ?_, ?_⟩
  · rw [List.map_append]; exact ho
  · rw [List.length_append, h.ll]; rfl
  · rw [List.length_append, h.bl]; rfl
  · intro i h1 h2
    rw [List.length_append] at h1 h2
    have hl := h.ll
    have hb := h.bl
    simp only [List.length_cons, List.length_nil] at h1 h2
    by_cases hi : i < N
    · rw [List.getElem_append_left (show i < l.length by omega), List.getElem_append_left (show i < bs.length by omega)]
      obtain ⟨q1, q2, q3⟩ := h.blk i (by omega) (by omega)
      exact ⟨blk_marked (blk_alloc (blk_alloc q1 _) _) hg hr2 (by decide), q2, by omega⟩
    · have hiN : i = N := by omega
      subst hiN
      rw [List.getElem_append_right (show l.length ≤ i by omega), List.getElem_append_right (show bs.length ≤ i by omega)]
      simp only [hl, hb, Nat.sub_self, List.getElem_cons_zero]
      exact ⟨blk_marked (blk_alloc (blk_new w _) _) hg hr2 (by decide), hlo, by omega⟩
  · rw [List.nodup_append]
    refine ⟨h.nd, List.nodup_cons.2 ⟨by simp, List.nodup_nil⟩, fun p hp q hq hpq => ?_⟩
    simp at hq
    subst hq
    obtain ⟨i, hi, e⟩ := List.getElem_of_mem hp
    have := (h.blk i (by rw [h.ll, ← h.bl]; exact hi) hi).2.2
    omega
end
end Go.Proofs.Ytccjedongkokoaa
