/- Contracts of the program's and the reference's functions (TwinP, CatP). -/
import Derived.Test.YtccjedongkokoaaRows
import Derived.Test.YtccjedongkokoaaQCi
import Derived.Test.YtccjedongkokoaaQCaa
import Derived.Test.YtccjedongkokoaaQCb
import Derived.Test.YtccjedongkokoaaQCo
import Derived.Test.YtccjedongkokoaaQCa
import Derived.Test.YtccjedongkokoaaQCl
namespace Go.Proofs.Ytccjedongkokoaa
open Go.ChangeShapes Go.WideShapes Go.ChangeAt Go.RowKit
set_option linter.unusedVariables false
set_option linter.unusedSimpArgs false
set_option maxRecDepth 10000
section
variable {P : Program} {w : World}
theorem wpList_append_G {ops : Array Oper} {rest : List Oper} {o : Oper} {a : Act} {Q : Exit → Act → World → Prop} (hgd : o.guard = none) (s x : Operand) (t : TypeId)
    (ho : o.op = .call { callee := .builtin .append, args := #[s, x], argTypes := #[t, t] })
    (base : Nat) (e : TypeId) (i : TypeInfo) (z : Value) (size bytes : Nat) (ht : P.underlying t = some (.slice e)) (hi : P.info? e = some i) (hz : i.zero = some z)
    (hsize : i.size = size) (hby : i.bytes = bytes) (hzs : z.cells.size = size) (hsz : 0 < size)
    (v : Value) (n : Nat) (xs : List Value) (hs : a.eval s = v) (hown : w.ownsRow base e size v n xs)
    (B : Nat) (A : Option Addr) (m c : Nat) (news : List Value) (hx : a.eval x = .slice A m c) (hr : Reads w B size A m news) (h1 : ∀ u ∈ news, u.oneCell' = true)
    (h63 : n + m ≤ maxLen) (hbytes : (n + m) * bytes ≤ 140737488355328) (hbase : base ≤ w.heap.size)
    (N : Nat) (ys : List Value) (hN : n + m = N) (hys : xs ++ news = ys) (h : ∀ A' c' w', w'.ownsRow base e size (.slice A' N c') N ys → Below base w w' → w.grownBy w' v.ownBlock → ((Value.slice A' N c').ownBlock = v.ownBlock ∨ (Value.slice A' N c').ownBlock = some w.heap.size) → wpList P ops Q rest (a.put o.dst (.slice A' N c')) w') : wpList P ops Q (o :: rest) a w := by
  refine wpList_append_any w hgd s x t ho base e i z size bytes ht hi hz hsize hby hzs hsz v n xs hs hown B A m c news hx hr h1 h63 hbytes hbase ?_
  subst hN; subst hys
  intro v' w' h2 h3 h4
  obtain ⟨A', c', rfl⟩ := own_slice h2
  exact h A' c' w' h2 (grown_below h3 (fun k hk => (hown.lt k hk).1) hbase) h3 h4
end
def twin1 (x y : PItem) : Bool := sameCard x.d x.f y.d y.f x.ss y.ss
def twin2 (x y : PItem) : Bool := sameCard x.d x.f (mirrorRes y.d y.f y.ss).1 (mirrorRes y.d y.f y.ss).2.1 x.ss (mirrorRes y.d y.f y.ss).2.2
def twin (x y : PItem) : Bool := twin1 x y || twin2 x y
def twAt (P : List PItem) (i k : Nat) : Bool := match P[i]?, P[k]? with
  | some x, some y => twin x y
  | _, _ => false
theorem twAt_get {P : List PItem} {i k : Nat} {x y : PItem} (h : P[i]? = some x) (h2 : P[k]? = some y) : twAt P i k = twin x y := by unfold twAt; rw [h, h2]
def twRow (P : List PItem) (i k : Nat) : List (Nat × Nat) := ((List.range k).filter (fun b => decide (i < b) && twAt P i b)).map (fun b => (i, b))
def twUp (P : List PItem) (i k : Nat) : List (Nat × Nat) := (List.range i).flatMap (fun a => twRow P a P.length) ++ twRow P i k
def twAll (P : List PItem) : List (Nat × Nat) := (List.range P.length).flatMap (fun a => twRow P a P.length)
def twRes (P : List PItem) : List (Nat × Nat) := if catOk P = true then twAll P else []
theorem twRow_none (P : List PItem) (i k : Nat) (h : k ≤ i + 1) : twRow P i k = [] := by
  unfold twRow
  rw [List.map_eq_nil_iff, List.filter_eq_nil_iff]
  intro b hb
  have := List.mem_range.1 hb
  simp; omega
theorem twRow_yes {P : List PItem} {i k : Nat} (hik : i < k) (h : twAt P i k = true) : twRow P i (k + 1) = twRow P i k ++ [(i, k)] := by
  unfold twRow
  rw [List.range_succ, List.filter_append, List.map_append]
  simp [hik, h]
theorem twRow_no {P : List PItem} {i k : Nat} (h : twAt P i k = false) : twRow P i (k + 1) = twRow P i k := by
  unfold twRow
  rw [List.range_succ, List.filter_append, List.map_append]
  simp [h]
theorem twUp_yes {P : List PItem} {i k : Nat} (hik : i < k) (h : twAt P i k = true) : twUp P i (k + 1) = twUp P i k ++ [(i, k)] := by
  unfold twUp; rw [twRow_yes hik h, List.append_assoc]
theorem twUp_no {P : List PItem} {i k : Nat} (h : twAt P i k = false) : twUp P i (k + 1) = twUp P i k := by
  unfold twUp; rw [twRow_no h]
theorem twUp_zero (P : List PItem) : twUp P 0 (0 + 1) = [] := by unfold twUp; rw [twRow_none _ _ _ (by omega)]; rfl
theorem twUp_next (P : List PItem) (i : Nat) : twUp P (i + 1) (i + 1 + 1) = twUp P i P.length := by
  unfold twUp
  rw [twRow_none _ _ _ (Nat.le_refl _), List.range_succ, List.flatMap_append]
  simp
theorem twUp_end (P : List PItem) : twUp P P.length (P.length + 1) = twAll P := by
  unfold twUp twAll
  rw [twRow_none _ _ _ (Nat.le_refl _), List.append_nil]
theorem twRow_len (P : List PItem) (i k : Nat) : (twRow P i k).length ≤ k := by
  unfold twRow
  rw [List.length_map]
  exact Nat.le_trans (List.length_filter_le _ _) (by rw [List.length_range]; exact Nat.le_refl _)
theorem twUp_len (P : List PItem) (i k : Nat) (h : P.length ≤ 20) (hi : i ≤ 20) (hk : k ≤ 21) : (twUp P i k).length ≤ 421 := by
  unfold twUp
  rw [List.length_append]
  have h1 := twRow_len P i k
  have h2 : ∀ i, i ≤ 20 → ((List.range i).flatMap (fun a => twRow P a P.length)).length ≤ i * 20 := by
    intro i hi
    induction i with
    | zero => simp
    | succ i ih =>
      have := ih (by omega)
      have h3 := twRow_len P i P.length
      rw [List.range_succ, List.flatMap_append, List.length_append]
      simp only [List.flatMap_cons, List.flatMap_nil, List.append_nil]
      omega
  have := h2 i hi
  omega
def pv (b : Nat) : Value := .slice (some ⟨b, 0, none⟩) 2 2
structure OwnPP (w : World) (lo hi : Nat) (A : Option Addr) (N c : Nat) (l : List (Nat × Nat)) (bs : List Nat) : Prop where
  row : w.ownsRow lo 64 1 (.slice A N c) N (bs.map pv)
  top : ∀ k, (Value.slice A N c).ownBlock = some k → k < hi
  ll : l.length = N
  bl : bs.length = N
  blk : ∀ i (h : i < l.length) (h' : i < bs.length), w.heap[bs[i]]? = some (.cells #[.int .i64 (l[i].1 : Int), .int .i64 (l[i].2 : Int)] 3 (0, 0)) ∧ lo ≤ bs[i] ∧ bs[i] < hi
  nd : bs.Nodup
theorem reads_pv (W : World) (x y : Int) : Reads ((W.alloc (.cells #[.int .i64 x, .int .i64 y] 3)).alloc (.cells #[pv W.heap.size] 64)) (W.heap.size + 1 + 1) 1 (some ⟨W.heap.size + 1, 0, none⟩) 1 [pv W.heap.size] := by
  have h := reads_one (W := W.alloc (.cells #[.int .i64 x, .int .i64 y] 3)) (pv W.heap.size) 64
  have e : (W.alloc (.cells #[.int .i64 x, .int .i64 y] 3)).heap.size = W.heap.size + 1 := by simp
  rw [e] at h
  exact h
section
variable {w w' : World} {lo hi lo' hi' N c : Nat} {A : Option Addr} {l : List (Nat × Nat)} {bs : List Nat}
theorem OwnPP.below (h : OwnPP w lo hi A N c l bs) (hb : Below w.heap.size w w') : OwnPP w' lo hi A N c l bs :=
  ⟨own_below h.row hb, h.top, h.ll, h.bl, fun i a b => ⟨blk_next (h.blk i a b).1 hb, (h.blk i a b).2⟩, h.nd⟩
theorem OwnPP.wide (h : OwnPP w lo hi A N c l bs) (h1 : lo' ≤ lo) (h2 : hi ≤ hi') : OwnPP w lo' hi' A N c l bs :=
  ⟨own_base h.row h1, fun k hk => by have := h.top k hk; omega, h.ll, h.bl, fun i a b => ⟨(h.blk i a b).1, by have := (h.blk i a b).2; omega⟩, h.nd⟩
theorem OwnPP.alloc (h : OwnPP w lo hi A N c l bs) (o : Obj) : OwnPP (w.alloc o) lo hi A N c l bs :=
  ⟨h.row.alloc _, h.top, h.ll, h.bl, fun i a b => ⟨blk_alloc (h.blk i a b).1 _, (h.blk i a b).2⟩, h.nd⟩
theorem OwnPP.nil (w : World) (lo : Nat) (hl : lo ≤ w.heap.size) : OwnPP (w.alloc (.cells #[] 64)) lo (w.alloc (.cells #[] 64)).heap.size (some ⟨w.heap.size, 0, none⟩) 0 0 [] [] :=
  ⟨made_at (e := 64) (size := 1) w lo w.heap.size rfl hl, fun k hk => by simp [Value.ownBlock] at hk; simp; omega, rfl, rfl, fun i h => absurd h (by simp), List.nodup_nil⟩
theorem OwnPP.none (w : World) (lo hi : Nat) : OwnPP w lo hi none 0 0 [] [] :=
  ⟨World.ownsRow_nil _ _ _ _, fun k hk => by simp [Value.ownBlock] at hk, rfl, rfl, fun i h => absurd h (by simp), List.nodup_nil⟩
theorem OwnPP.snoc {w3 : World} {A2 : Option Addr} {c2 x y : Nat} (h : OwnPP w lo w.heap.size A N c l bs) (hlo : lo ≤ w.heap.size)
    (ho : w3.ownsRow lo 64 1 (.slice A2 (N + 1) c2) (N + 1) (bs.map pv ++ [pv w.heap.size]))
    (hg : ((w.alloc (.cells #[.int .i64 (x : Int), .int .i64 (y : Int)] 3)).alloc (.cells #[pv w.heap.size] 64)).grownBy w3 (Value.slice A N c).ownBlock) :
    OwnPP w3 lo w3.heap.size A2 (N + 1) c2 (l ++ [(x, y)]) (bs ++ [w.heap.size]) := by
  have hr2 := (h.row.alloc (.cells #[.int .i64 (x : Int), .int .i64 (y : Int)] 3)).alloc (.cells #[pv w.heap.size] 64)
  have hsz := hg.size
  simp only [World.alloc, Array.size_push] at hsz
  refine ⟨?_, fun k hk => (ho.lt k hk).2, ?_, ?_, ?_, ?_⟩
  · rw [List.map_append]; exact ho
  · rw [List.length_append, h.ll]; rfl
  · rw [List.length_append, h.bl]; rfl
  · intro i h1 h2
    rw [List.length_append] at h1 h2
    have hl := h.ll
    have hb := h.bl
    simp only [List.length_cons, List.length_nil] at h1 h2
    by_cases hi : i < N
    · rw [List.getElem_append_left (show i < l.length by omega), List.getElem_append_left (show i < bs.length by omega)]
      obtain ⟨q1, q2, q3⟩ := h.blk i (by omega) (by omega)
      exact ⟨blk_marked (blk_alloc (blk_alloc q1 _) _) hg hr2 (by decide), q2, by omega⟩
    · have hiN : i = N := by omega
      subst hiN
      rw [List.getElem_append_right (show l.length ≤ i by omega), List.getElem_append_right (show bs.length ≤ i by omega)]
      simp only [hl, hb, Nat.sub_self, List.getElem_cons_zero]
      exact ⟨blk_marked (blk_alloc (blk_new w _) _) hg hr2 (by decide), hlo, by omega⟩
  · rw [List.nodup_append]
    refine ⟨h.nd, List.nodup_cons.2 ⟨by simp, List.nodup_nil⟩, fun p hp q hq hpq => ?_⟩
    simp at hq
    subst hq
    obtain ⟨i, hi, e⟩ := List.getElem_of_mem hp
    have := (h.blk i (by rw [h.ll, ← h.bl]; exact hi) hi).2.2
    omega
end
end Go.Proofs.Ytccjedongkokoaa
namespace Go.Proofs.Ytccjedongkokoaa
open Go.ChangeShapes Go.WideShapes Go.ChangeAt Go.RowKit
set_option linter.unusedVariables false
set_option linter.unusedSimpArgs false
set_option maxRecDepth 10000
theorem bytesLess_trans : ∀ {a b c : List UInt8}, Op.bytesLess a b = true → Op.bytesLess b c = true → Op.bytesLess a c = true
  | [], [], _, h, _ => by simp [Op.bytesLess] at h
  | [], _ :: _, [], _, h => by simp [Op.bytesLess] at h
  | [], _ :: _, _ :: _, _, _ => by simp [Op.bytesLess]
  | _ :: _, [], _, h, _ => by simp [Op.bytesLess] at h
  | _ :: _, _ :: _, [], _, h => by simp [Op.bytesLess] at h
  | a :: x, b :: y, c :: z, h1, h2 => by
    simp only [Op.bytesLess, Bool.or_eq_true, Bool.and_eq_true, decide_eq_true_eq, beq_iff_eq] at h1 h2 ⊢
    rcases h1 with h1 | ⟨rfl, h1⟩
    · rcases h2 with h2 | ⟨rfl, h2⟩
      · exact .inl (UInt8.lt_trans h1 h2)
      · exact .inl h1
    · rcases h2 with h2 | ⟨rfl, h2⟩
      · exact .inl h2
      · exact .inr ⟨rfl, bytesLess_trans h1 h2⟩
theorem bytesLess_total : ∀ (a b : List UInt8), Op.bytesLess a b = false → a ≠ b → Op.bytesLess b a = true
  | [], [], _, h => absurd rfl h
  | [], _ :: _, h, _ => by simp [Op.bytesLess] at h
  | _ :: _, [], _, _ => by simp [Op.bytesLess]
  | a :: x, b :: y, h, hne => by
    simp only [Op.bytesLess, Bool.or_eq_false_iff, Bool.and_eq_false_iff, decide_eq_false_iff_not, beq_eq_false_iff_ne] at h
    simp only [Op.bytesLess, Bool.or_eq_true, Bool.and_eq_true, decide_eq_true_eq, beq_iff_eq]
    by_cases hab : b < a
    · exact .inl hab
    · have hba : a = b := UInt8.le_antisymm (UInt8.not_lt.1 hab) (UInt8.not_lt.1 h.1)
      subst hba
      refine .inr ⟨rfl, bytesLess_total x y ?_ (fun e => hne (by rw [e]))⟩
      rcases h.2 with h2 | h2
      · exact absurd rfl h2
      · exact h2
theorem bytesLess_irrefl : ∀ (a : List UInt8), Op.bytesLess a a = false
  | [] => rfl
  | a :: x => by simp [Op.bytesLess, UInt8.lt_irrefl, bytesLess_irrefl x]
theorem nmLe_not {a b : ByteArray} : nmLe a b = false ↔ Op.bytesLess b.toList a.toList = true := by
  unfold nmLe
  simp only [Bool.or_eq_false_iff, beq_eq_false_iff_ne]
  constructor
  · rintro ⟨h1, h2⟩; exact bytesLess_total _ _ h1 h2
  · intro h
    refine ⟨?_, fun e => ?_⟩
    · cases h2 : Op.bytesLess a.toList b.toList
      · rfl
      · have := bytesLess_trans h h2
        rw [bytesLess_irrefl] at this; cases this
    · rw [e, bytesLess_irrefl] at h; cases h
theorem catOk_iff {P : List PItem} : catOk P = true ↔ P.length ≤ 20 ∧ (∀ x ∈ P, nameOk x.nm = true ∧ cardOk x.d x.f x.ss = true) ∧ P.Pairwise (fun a b => Op.bytesLess a.nm.toList b.nm.toList = true) := by
  unfold catOk
  simp only [Bool.and_eq_true, List.all_eq_true, List.mem_range, decide_eq_true_eq]
  have key : ∀ i, (hi : i < P.length) → (itGood P i = true ↔ (nameOk P[i].nm = true ∧ cardOk P[i].d P[i].f P[i].ss = true) ∧ (∀ j, (hj : j + 1 = i) → Op.bytesLess (P[j]'(by omega)).nm.toList P[i].nm.toList = true)) := by
    intro i hi
    cases i with
    | zero =>
      rw [itGood_0 (List.getElem?_eq_getElem hi)]
      simp only [Bool.and_eq_true]
      exact ⟨fun h => ⟨h, fun j hj => by omega⟩, fun h => h.1⟩
    | succ k =>
      rw [itGood_s (List.getElem?_eq_getElem hi) (List.getElem?_eq_getElem (by omega))]
      simp only [Bool.and_eq_true, Bool.not_eq_true', nmLe_not]
      exact ⟨fun h => ⟨h.1, fun j hj => by have : j = k := by omega
                                           subst this; exact h.2⟩, fun h => ⟨h.1, h.2 k rfl⟩⟩
  constructor
  · rintro ⟨h1, h2⟩
    refine ⟨h2, fun x hx => ?_, ?_⟩
    · obtain ⟨i, hi, rfl⟩ := List.getElem_of_mem hx
      exact ((key i hi).1 (h1 i hi)).1
    · rw [List.pairwise_iff_getElem]
      have hstep : ∀ i, (hi : i + 1 < P.length) → Op.bytesLess P[i].nm.toList P[i + 1].nm.toList = true := fun i hi => ((key (i + 1) hi).1 (h1 (i + 1) hi)).2 i rfl
      intro i j hi hj hij
      induction j with
      | zero => omega
      | succ j ih =>
        rcases Nat.lt_or_ge i j with h3 | h3
        · exact bytesLess_trans (ih (by omega) h3) (hstep j hj)
        · have : i = j := by omega
          subst this
          exact hstep i hj
  · rintro ⟨h1, h2, h3⟩
    refine ⟨fun i hi => (key i hi).2 ⟨h2 _ (List.getElem_mem hi), fun j hj => ?_⟩, h1⟩
    rw [List.pairwise_iff_getElem] at h3
    exact h3 j i (by omega) hi (by omega)
theorem added_cat {P : List PItem} {x : PItem} (h : (added P x).2 = true) : catOk (added P x).1 = true := by
  obtain ⟨j, hj⟩ : ∃ j, posOf P x.nm = j := ⟨_, rfl⟩
  cases hc : catOk P with
  | false => rw [added_no1 hc] at h; cases h
  | true =>
    cases hi : catOk (insP P x j) with
    | false => rw [added_no2 hj hi] at h; cases h
    | true => rw [added_yes hj hc hi]; exact hi
theorem added_mem {P : List PItem} {x y : PItem} (h : y ∈ (added P x).1) : y = x ∨ y ∈ P := by
  unfold added at h
  split at h
  · split at h
    · exact insP_mem h
    · exact .inr h
  · exact .inr h
theorem added_len (P : List PItem) (x : PItem) : (added P x).1.length ≤ P.length + 1 := by
  unfold added
  split
  · split
    · show (insP P x _).length ≤ _
      unfold insP
      rw [List.length_append, List.length_cons, List.length_take, List.length_drop]
      omega
    · exact Nat.le_succ _
  · exact Nat.le_succ _
def drawNames : List ByteArray := [⟨#[97, 114, 99, 104]⟩, ⟨#[98, 97, 114, 110]⟩, ⟨#[98, 111, 97, 116]⟩, ⟨#[98, 114, 105, 100, 103, 101]⟩, ⟨#[99, 97, 115, 116, 108, 101]⟩, ⟨#[99, 97, 116]⟩, ⟨#[99, 104, 97, 105, 114]⟩, ⟨#[100, 114, 97, 103, 111, 110]⟩, ⟨#[102, 111, 120]⟩, ⟨#[104, 111, 117, 115, 101]⟩]
theorem drawNames_size {x : ByteArray} (h : x ∈ drawNames) : x.size ≤ 16777216 := by
  simp [drawNames] at h
  rcases h with rfl | rfl | rfl | rfl | rfl | rfl | rfl | rfl | rfl | rfl <;> decide
def owl : ByteArray := ⟨#[111, 119, 108]⟩
theorem owl_ok : nameOk owl = true := by decide
theorem owl_not {x : ByteArray} (h : x ∈ drawNames) : x ≠ owl := by
  simp [drawNames] at h
  rcases h with rfl | rfl | rfl | rfl | rfl | rfl | rfl | rfl | rfl | rfl <;> decide
theorem toList_injS {a b : ByteArray} (h : a.toList = b.toList) : a = b := by
  rw [ByteArray.toList_eq, ByteArray.toList_eq] at h
  exact ba_ext h
theorem insP_nil (x : PItem) (j : Nat) : insP [] x j = [x] := by simp [insP]
theorem ins_sorted : ∀ (P : List PItem) (x : PItem), P.Pairwise (fun a b => Op.bytesLess a.nm.toList b.nm.toList = true) → (∀ y ∈ P, y.nm ≠ x.nm) →
    (insP P x (posOf P x.nm)).Pairwise (fun a b => Op.bytesLess a.nm.toList b.nm.toList = true)
  | [], x, _, _ => by rw [insP_nil]; exact List.pairwise_singleton _ _
  | y :: l, x, hp, hx => by
    rw [List.pairwise_cons] at hp
    unfold posOf
    by_cases h : nmLt y.nm x.nm = true
    · rw [if_pos h]
      have e : insP (y :: l) x (posOf l x.nm + 1) = y :: insP l x (posOf l x.nm) := by simp [insP]
      rw [e, List.pairwise_cons]
      refine ⟨fun z hz => ?_, ins_sorted l x hp.2 (fun z hz => hx z (List.mem_cons_of_mem _ hz))⟩
      rcases insP_mem hz with rfl | hz
      · exact h
      · exact hp.1 z hz
    · rw [if_neg h]
      have e : insP (y :: l) x 0 = x :: y :: l := by simp [insP]
      have hyx : Op.bytesLess x.nm.toList y.nm.toList = true := bytesLess_total _ _ (by simpa [nmLt] using h) (fun e => hx y (List.mem_cons_self ..) (toList_injS e))
      rw [e, List.pairwise_cons, List.pairwise_cons]
      refine ⟨fun z hz => ?_, hp⟩
      rcases List.mem_cons.1 hz with rfl | hz
      · exact hyx
      · exact bytesLess_trans hyx (hp.1 z hz)
theorem ins_cat {P : List PItem} {x : PItem} (h : catOk P = true) (hl : P.length < 20) (hn : nameOk x.nm = true) (hc : cardOk x.d x.f x.ss = true) (hx : ∀ y ∈ P, y.nm ≠ x.nm) : catOk (insP P x (posOf P x.nm)) = true := by
  obtain ⟨h1, h2, h3⟩ := catOk_iff.1 h
  refine catOk_iff.2 ⟨?_, fun y hy => ?_, ins_sorted P x h3 hx⟩
  · rw [insP_len _ _ _ (posOf_le P x.nm)]; omega
  · rcases insP_mem hy with rfl | hy
    · exact ⟨hn, hc⟩
    · exact h2 y hy
theorem ins_at {P : List PItem} {x : PItem} {j : Nat} (hj : j ≤ P.length) : (insP P x j)[j]? = some x := by
  unfold insP
  rw [List.getElem?_append_right (by rw [List.length_take]; omega)]
  have : j - (P.take j).length = 0 := by rw [List.length_take]; omega
  rw [this]; rfl
theorem ins_noNm {P : List PItem} {x : PItem} {j : Nat} (hj : j ≤ P.length) (hx : ∀ y ∈ P, y.nm ≠ x.nm) : noNm (insP P x j) x.nm j := by
  intro i hi y hy
  unfold insP at hy
  rw [List.getElem?_append_left (by rw [List.length_take]; omega)] at hy
  exact hx y (List.mem_of_mem_take (List.mem_of_getElem? hy))
theorem ins_idx {P : List PItem} {x : PItem} {j : Nat} (hj : j ≤ P.length) (hx : ∀ y ∈ P, y.nm ≠ x.nm) : idxNm (insP P x j) x.nm = some j := idxNm_some (ins_noNm hj hx) (ins_at hj) rfl
theorem ins_drop {P : List PItem} {x : PItem} {j : Nat} (hj : j ≤ P.length) (hx : ∀ y ∈ P, y.nm ≠ x.nm) (hc : catOk (insP P x j) = true) : dropped (insP P x j) x.nm = (P, true) := by
  rw [dropped_yes hc (ins_idx hj hx)]
  have h1 : (insP P x j).take j = P.take j := by unfold insP; rw [List.take_append_of_le_length (by rw [List.length_take]; omega), List.take_take, Nat.min_self]
  have h2 : (insP P x j).drop (j + 1) = P.drop j := by
    unfold insP
    rw [List.drop_append, List.drop_eq_nil_of_le (by rw [List.length_take]; omega)]
    have : j + 1 - (P.take j).length = 1 := by rw [List.length_take]; omega
    rw [this]; rfl
  rw [h1, h2, List.take_append_drop]
theorem cardOk_revC {d f : Int} {ss : List ByteArray} (h : cardOk d f ss = true) : cardOk d f ss.reverse = true := by
  obtain ⟨h1, h2, h3⟩ := card_iff.1 h
  exact card_iff.2 ⟨h1, by rw [List.length_reverse]; exact h2, fun s hs => h3 s (List.mem_reverse.1 hs)⟩
def wren : ByteArray := ⟨#[119, 114, 101, 110]⟩
theorem wren_ok : nameOk wren = true := by decide
theorem wren_not {x : ByteArray} (h : x ∈ drawNames) : x ≠ wren := by
  simp [drawNames] at h
  rcases h with rfl | rfl | rfl | rfl | rfl | rfl | rfl | rfl | rfl | rfl <;> decide
theorem owl_wren : owl ≠ wren := by decide
def preB : ByteArray := ⟨#[111, 119]⟩
theorem ow_not {x : ByteArray} (h : x ∈ drawNames) : Lib.hasPrefix x.data.toList preB.data.toList = false := by
  simp [drawNames] at h
  rcases h with rfl | rfl | rfl | rfl | rfl | rfl | rfl | rfl | rfl | rfl <;> decide
structure DrewP (P : List PItem) (j : Nat) : Prop where
  ok : catOk P = true
  len : P.length ≤ j
  nm : ∀ x ∈ P, x.nm ∈ drawNames
theorem DrewP.nil : DrewP [] 0 := ⟨by decide, Nat.le_refl _, fun x hx => by cases hx⟩
theorem DrewP.add {P : List PItem} {j : Nat} (h : DrewP P j) (x : PItem) (hx : x.nm ∈ drawNames) : DrewP (added P x).1 (j + 1) := by
  refine ⟨?_, by have := added_len P x; have := h.len; omega, fun y hy => ?_⟩
  · cases q : (added P x).2
    · unfold added at q ⊢
      split at q
      · split at q
        · cases q
        · rename_i h1 h2; rw [if_pos h1, if_neg h2]; exact h.ok
      · rename_i h1; rw [if_neg h1]; exact h.ok
    · exact added_cat q
  · rcases added_mem hy with rfl | q
    · exact hx
    · exact h.nm y q
theorem filter_ins (p : PItem → Bool) (P : List PItem) (x : PItem) (j : Nat) : ((insP P x j).filter p).length = (P.filter p).length + if p x = true then 1 else 0 := by
  unfold insP
  have e : (P.filter p).length = ((P.take j).filter p).length + ((P.drop j).filter p).length := by
    rw [← List.length_append, ← List.filter_append, List.take_append_drop]
  rw [List.filter_append, List.length_append, e, List.filter_cons]
  split
  · rw [List.length_cons]; omega
  · omega
theorem insP_mem' {P : List PItem} {x y : PItem} {j : Nat} (h : y ∈ P) : y ∈ insP P x j := by
  unfold insP
  rw [← List.take_append_drop j P] at h
  rcases List.mem_append.1 h with q | q
  · exact List.mem_append.2 (.inl q)
  · exact List.mem_append.2 (.inr (List.mem_cons_of_mem _ q))
theorem insP_self {P : List PItem} {x : PItem} {j : Nat} : x ∈ insP P x j := List.mem_append.2 (.inr List.mem_cons_self)
theorem twice_no {Q : List PItem} {x y : PItem} (hy : y ∈ Q) (hn : y.nm = x.nm) : added Q x = (Q, false) := by
  refine added_no2 rfl ?_
  cases h : catOk (insP Q x (posOf Q x.nm))
  · rfl
  · obtain ⟨_, _, h3⟩ := catOk_iff.1 h
    unfold insP at h3
    rw [List.pairwise_append, List.pairwise_cons] at h3
    rw [← List.take_append_drop (posOf Q x.nm) Q] at hy
    exfalso
    rcases List.mem_append.1 hy with q | q
    · have := h3.2.2 y q x List.mem_cons_self
      rw [hn, bytesLess_irrefl] at this; cases this
    · have := h3.2.1.1 y q
      rw [hn, bytesLess_irrefl] at this; cases this
theorem twAll_mem {P : List PItem} {p : Nat × Nat} : p ∈ twAll P ↔ p.1 < p.2 ∧ p.2 < P.length ∧ twAt P p.1 p.2 = true := by
  obtain ⟨a, b⟩ := p
  unfold twAll twRow
  simp only [List.mem_flatMap, List.mem_range, List.mem_map, List.mem_filter, Bool.and_eq_true, decide_eq_true_eq, Prod.mk.injEq]
  constructor
  · rintro ⟨x, hx, y, ⟨hy, hxy, ht⟩, rfl, rfl⟩
    exact ⟨hxy, hy, ht⟩
  · rintro ⟨h1, h2, h3⟩
    exact ⟨a, by omega, b, ⟨h2, h1, h3⟩, rfl, rfl⟩
structure CatLaw (P Q Z : List PItem) (d f : Int) (ss : List ByteArray) : Prop where
  q : added P ⟨owl, d, f, ss⟩ = (Q, true)
  n : named Q owl = ((d, f), (ss, true))
  dr : dropped Q owl = (P, true)
  g : named P owl = ((0, 0), ([], false))
  z : added Q ⟨wren, d, f, ss.reverse⟩ = (Z, true)
  ok : catOk Z = true
  len : Z.length = P.length + 2
  tw : added Q ⟨owl, d, f, ss⟩ = (Q, false)
  all : (Z.filter fun x => Lib.hasPrefix x.nm.data.toList (⟨#[]⟩ : ByteArray).data.toList).length = Z.length
  one : (Z.filter fun x => Lib.hasPrefix x.nm.data.toList preB.data.toList).length = 1
  pr : ∃ i : Nat, ∃ (hi : i < (twRes Z).length), ∃ x y : PItem, Z[((twRes Z)[i]).1]? = some x ∧ Z[((twRes Z)[i]).2]? = some y ∧ x.nm = owl ∧ y.nm = wren
  each : ∀ p ∈ twRes Z, p.1 < p.2 ∧ p.2 < Z.length
theorem catLaw {P : List PItem} {d f : Int} {ss : List ByteArray} {j : Nat} (h : DrewP P j) (hj : j ≤ 5) (hc : cardOk d f ss = true) : ∃ Q Z, CatLaw P Q Z d f ss := by
  have hlen := h.len
  have ho : ∀ y ∈ P, y.nm ≠ owl := fun y hy => owl_not (h.nm y hy)
  have hw : ∀ y ∈ P, y.nm ≠ wren := fun y hy => wren_not (h.nm y hy)
  have hp1 := posOf_le P owl
  have c1 : catOk (insP P ⟨owl, d, f, ss⟩ (posOf P owl)) = true := ins_cat (x := ⟨owl, d, f, ss⟩) h.ok (by omega) owl_ok hc ho
  have l1 := insP_len P ⟨owl, d, f, ss⟩ _ hp1
  have i1 := ins_idx (x := ⟨owl, d, f, ss⟩) hp1 ho
  have a1 := ins_at (x := (⟨owl, d, f, ss⟩ : PItem)) hp1
  have d1 := ins_drop (x := ⟨owl, d, f, ss⟩) hp1 ho c1
  have q1 := added_yes (x := ⟨owl, d, f, ss⟩) rfl h.ok c1
  have n1 := named_yes c1 i1 a1
  have m1 : (⟨owl, d, f, ss⟩ : PItem) ∈ insP P ⟨owl, d, f, ss⟩ (posOf P owl) := insP_self
  have hw2 : ∀ y ∈ insP P ⟨owl, d, f, ss⟩ (posOf P owl), y.nm ≠ wren := fun y hy => by
    rcases insP_mem hy with rfl | q
    · exact owl_wren
    · exact hw y q
  have f1 := fun p => filter_ins p P ⟨owl, d, f, ss⟩ (posOf P owl)
  obtain ⟨Q, hQ⟩ : ∃ Q, insP P ⟨owl, d, f, ss⟩ (posOf P owl) = Q := ⟨_, rfl⟩
  rw [hQ] at c1 l1 d1 n1 m1 hw2 f1
  have q1' : added P ⟨owl, d, f, ss⟩ = (Q, true) := by rw [← hQ]; exact q1
  have hp2 := posOf_le Q wren
  have c2 : catOk (insP Q ⟨wren, d, f, ss.reverse⟩ (posOf Q wren)) = true := ins_cat (x := ⟨wren, d, f, ss.reverse⟩) c1 (by omega) wren_ok (cardOk_revC hc) hw2
  have l2 := insP_len Q ⟨wren, d, f, ss.reverse⟩ _ hp2
  have q2 := added_yes (x := ⟨wren, d, f, ss.reverse⟩) rfl c1 c2
  have m2 : (⟨wren, d, f, ss.reverse⟩ : PItem) ∈ insP Q ⟨wren, d, f, ss.reverse⟩ (posOf Q wren) := insP_self
  have m3 := insP_mem' (x := ⟨wren, d, f, ss.reverse⟩) (j := posOf Q wren) m1
  have f2 := fun p => filter_ins p Q ⟨wren, d, f, ss.reverse⟩ (posOf Q wren)
  obtain ⟨Z, hZ⟩ : ∃ Z, insP Q ⟨wren, d, f, ss.reverse⟩ (posOf Q wren) = Z := ⟨_, rfl⟩
  rw [hZ] at c2 l2 m2 m3 f2
  have q2' : added Q ⟨wren, d, f, ss.reverse⟩ = (Z, true) := by rw [← hZ]; exact q2
  have hres : twRes Z = twAll Z := by unfold twRes; rw [if_pos c2]
  refine ⟨Q, Z, q1', n1, d1, named_no2 (idxNm_none (fun i hi y hy => ho y (List.mem_of_getElem? hy))), q2', c2, by omega, twice_no m1 rfl, ?_, ?_, ?_, ?_⟩
  · rw [List.filter_eq_self.2 (fun x hx => ?_)]
    show Lib.hasPrefix x.nm.data.toList [] = true
    unfold Lib.hasPrefix
    simp
  · rw [f2, f1]
    have e0 : (P.filter fun x => Lib.hasPrefix x.nm.data.toList preB.data.toList) = [] := List.filter_eq_nil_iff.2 fun x hx => by rw [ow_not (h.nm x hx)]; decide
    rw [e0, if_pos (show Lib.hasPrefix owl.data.toList preB.data.toList = true by decide), if_neg (show ¬ Lib.hasPrefix wren.data.toList preB.data.toList = true by decide)]
    rfl
  · obtain ⟨a, ha, ea⟩ := List.getElem_of_mem m3
    obtain ⟨b, hb, eb⟩ := List.getElem_of_mem m2
    have ga : Z[a]? = some ⟨owl, d, f, ss⟩ := by rw [List.getElem?_eq_getElem ha, ea]
    have gb : Z[b]? = some ⟨wren, d, f, ss.reverse⟩ := by rw [List.getElem?_eq_getElem hb, eb]
    obtain ⟨_, _, hs⟩ := catOk_iff.1 c2
    have hab : a < b := by
      refine Nat.lt_of_le_of_ne (Nat.le_of_not_lt fun hlt => ?_) (fun e => ?_)
      · have := (List.pairwise_iff_getElem.1 hs) b a hb ha hlt
        rw [ea, eb] at this
        have h9 : Op.bytesLess wren.toList owl.toList = true := this
        rw [ByteArray.toList_eq, ByteArray.toList_eq] at h9
        exact absurd h9 (by decide)
      · subst e
        rw [ea] at eb
        exact owl_wren (congrArg PItem.nm eb)
    have htw : twAt Z a b = true := by
      rw [twAt_get ga gb]
      have : twin2 ⟨owl, d, f, ss⟩ ⟨wren, d, f, ss.reverse⟩ = true := by
        unfold twin2 mirrorRes
        simp only [cardOk_revC hc, if_true, List.reverse_reverse]
        exact sameCard_iff.2 ⟨rfl, rfl, rfl⟩
      unfold twin
      rw [this, Bool.or_true]
    have hm : (a, b) ∈ twRes Z := by rw [hres]; exact twAll_mem.2 ⟨hab, hb, htw⟩
    obtain ⟨i, hi, e⟩ := List.getElem_of_mem hm
    exact ⟨i, hi, _, _, by rw [e]; exact ga, by rw [e]; exact gb, rfl, rfl⟩
  · intro p hp
    rw [hres] at hp
    have := twAll_mem.1 hp
    exact ⟨this.1, this.2.1⟩
end Go.Proofs.Ytccjedongkokoaa
