/- Rows of structs: cells of several fields each; boxes, steps, papers. -/
import Derived.Test.YteffbjddgdjkmaaCard5
import Derived.Test.YteffbjddgdjkmaaLawKit2
namespace Go.Proofs.Yteffbjddgdjkmaa
open Go.ChangeShapes Go.WideShapes Go.ChangeAt Go.RowKit
set_option linter.unusedVariables false
set_option maxRecDepth 10000

section
variable {α : Type} {f : α → List Value} {k : Nat}
theorem flat_len (hf : ∀ x, (f x).length = k) (l : List α) : (l.flatMap f).length = l.length * k := by
  induction l with
  | nil => simp
  | cons x l ih => rw [List.flatMap_cons, List.length_append, hf, ih, List.length_cons, Nat.add_mul, Nat.one_mul, Nat.add_comm]
theorem flat_get (hf : ∀ x, (f x).length = k) (l : List α) (i j : Nat) (hi : i < l.length) (hj : j < k) : (l.flatMap f)[i * k + j]? = (f l[i])[j]? := by
  induction l generalizing i with
  | nil => simp at hi
  | cons x l ih =>
    rw [List.flatMap_cons]
    cases i with
    | zero => rw [List.getElem?_append_left (by rw [hf]; omega)]; simp
    | succ i =>
      rw [List.getElem?_append_right (by rw [hf, Nat.add_mul]; omega), hf]
      rw [show (i + 1) * k + j - k = i * k + j by rw [Nat.add_mul]; omega]
      rw [ih i (by simpa using hi)]; simp
theorem flat_take (hf : ∀ x, (f x).length = k) (l : List α) (i : Nat) : (l.flatMap f).take (i * k) = (l.take i).flatMap f := by
  induction l generalizing i with
  | nil => simp
  | cons x l ih =>
    cases i with
    | zero => simp
    | succ i =>
      rw [List.flatMap_cons, List.take_succ_cons, List.flatMap_cons, List.take_append, hf, List.take_of_length_le (by rw [hf, Nat.add_mul]; omega)]
      rw [show (i + 1) * k - k = i * k by rw [Nat.add_mul]; omega, ih]
theorem flat_snoc (l : List α) (x : α) : (l ++ [x]).flatMap f = l.flatMap f ++ f x := by simp
end
theorem add_next (a : Addr) (m j : Nat) (hj : 0 < j) : a.add (m + j) = ⟨(a.add m).block, (a.add m).off + j, none⟩ := by
  unfold Addr.add
  rw [if_neg (by omega)]
  by_cases h : m = 0
  · subst h; simp
  · rw [if_neg h]; simp [Nat.add_assoc]
theorem keep_ofP {B : Nat} {a W : World} (h : Below B a W) : (∀ p : Addr, p.block < B → W.cell? p = a.cell? p) ∧ (∀ p : Addr, p.block < B → W.frozen? p = a.frozen? p) ∧ Below B a W :=
  ⟨fun _ hb => h.cell hb, fun _ hb => h.frozen hb, h⟩
theorem own_cellk {w : World} {base size : Nat} {e : TypeId} {g n c : Nat} {xs : List Value} (h : w.ownsRow base e size (.slice (some ⟨g, 0, none⟩) n c) n xs) (j : Nat) (hj : j < n * size) : ∃ u, w.cell? ⟨g, j, none⟩ = some u := by
  have hl := h.1
  rw [h.cellAt j hj, List.getElem?_eq_getElem (by omega)]
  exact ⟨_, rfl⟩
/-- n times the same cells -/
def reps (zs : List Value) (n : Nat) : List Value := (List.replicate n zs).flatten
theorem reps_len (zs : List Value) (n : Nat) : (reps zs n).length = n * zs.length := by simp [reps]
theorem reps_succ (zs : List Value) (n : Nat) : reps zs (n + 1) = zs ++ reps zs n := by simp [reps, List.replicate_succ]
theorem reps_get (zs : List Value) (n i : Nat) (hi : i < n * zs.length) : (reps zs n)[i]? = zs[i % zs.length]? := by
  induction n generalizing i with
  | zero => omega
  | succ n ih =>
    rw [reps_succ]
    by_cases h : i < zs.length
    · rw [List.getElem?_append_left h, Nat.mod_eq_of_lt h]
    · rw [List.getElem?_append_right (by omega), ih (i - zs.length) (by rw [Nat.add_mul] at hi; omega)]
      congr 1
      rw [Nat.mod_eq_sub_mod (a := i) (by omega)]
theorem made_reps (zs : List Value) (n : Nat) (hz : 0 < zs.length) : (madeCells zs.toArray (n * zs.length)).toList = reps zs n := by
  apply List.ext_getElem?
  intro i
  by_cases h : i < n * zs.length
  · rw [reps_get zs n i h]
    have hm : i % zs.length < zs.length := Nat.mod_lt _ hz
    simp [madeCells, h, hm]
  · rw [List.getElem?_eq_none (by simp [madeCells]; omega), List.getElem?_eq_none (by rw [reps_len]; omega)]
/-- the cells of one element are written -/
theorem set_row (a c ys : List Value) (zs : List Value) (p : Nat) (hp : a.length = p) (hz : zs.length = ys.length) : ∀ j, j ≤ ys.length →
    (List.range j).foldl (fun l i => l.set (p + i) (ys.getD i undef)) (a ++ (zs ++ c)) = a ++ ((ys.take j ++ zs.drop j) ++ c) := by
  intro j
  induction j with
  | zero => intro _; simp
  | succ j ih =>
    intro hj
    rw [List.range_succ, List.foldl_append, ih (by omega), List.foldl_cons, List.foldl_nil]
    rw [List.set_append, if_neg (by omega), List.append_assoc, List.set_append, if_neg (by rw [List.length_take]; omega)]
    rw [List.length_take, Nat.min_eq_left (by omega), hp, Nat.add_sub_cancel_left, Nat.sub_self, List.drop_eq_getElem_cons (by omega), List.cons_append, List.set_cons_zero]
    rw [List.take_succ_eq_append_getElem (by omega), List.append_assoc, List.append_assoc]
    simp [List.getD, List.getElem?_eq_getElem (show j < ys.length by omega)]

theorem set3 (A C : List Value) (p : Nat) (hp : A.length = p) (z0 z1 z2 c0 c1 c2 : Value) : ((((A ++ ([z0, z1, z2] ++ C)).set (p) c0).set (p + 1) c1).set (p + 2) c2) = A ++ ([c0, c1, c2] ++ C) := by
  subst hp
  induction A with
  | nil => rfl
  | cons a A ih =>
    simp only [List.cons_append, List.length_cons, Nat.add_right_comm _ 1, List.set_cons_succ]
    exact congrArg (a :: ·) (by simp)
theorem set7 (A C : List Value) (p : Nat) (hp : A.length = p) (z0 z1 z2 z3 z4 z5 z6 c0 c1 c2 c3 c4 c5 c6 : Value) : ((((((((A ++ ([z0, z1, z2, z3, z4, z5, z6] ++ C)).set (p) c0).set (p + 1) c1).set (p + 2) c2).set (p + 3) c3).set (p + 4) c4).set (p + 5) c5).set (p + 6) c6) = A ++ ([c0, c1, c2, c3, c4, c5, c6] ++ C) := by
  subst hp
  induction A with
  | nil => rfl
  | cons a A ih =>
    simp only [List.cons_append, List.length_cons, Nat.add_right_comm _ 1, List.set_cons_succ]
    exact congrArg (a :: ·) (by simp)
structure PBox where
  (F L T : Int)
def boxCells (s : PBox) : List Value := [.int .i64 s.F, .int .i64 s.L, .int .i64 s.T]
theorem boxCells_len (s : PBox) : (boxCells s).length = 3 := rfl
structure Boxes (w : World) (B : Nat) (A : Option Addr) (n : Nat) (l : List PBox) : Prop where
  rd : Reads w B 3 A n (l.flatMap boxCells)
  nb : n ≤ 16777216
section
variable {w w' : World} {B B' n : Nat} {A : Option Addr} {l : List PBox}
theorem Boxes.len (h : Boxes w B A n l) : l.length = n := by
  have := h.rd.1; rw [flat_len boxCells_len] at this; omega
theorem Boxes.below (h : Boxes w B A n l) (hb : Below B w w') : Boxes w' B A n l := ⟨h.rd.below hb, h.nb⟩
theorem Boxes.more (h : Boxes w B A n l) (hB : B ≤ B') : Boxes w B' A n l := ⟨h.rd.more hB, h.nb⟩
theorem Boxes.drewN (h : Boxes w B A n l) (k : Nat) : Boxes (w.drewN k) B A n l := ⟨h.rd.drewN k, h.nb⟩
theorem Boxes.alloc (h : Boxes w B A n l) (hB : B ≤ w.heap.size) (o : Obj) : Boxes (w.alloc o) B A n l := ⟨h.rd.alloc hB o, h.nb⟩
theorem boxCells_at {w : World} {B n : Nat} {A : Option Addr} {l : List PBox} {k : Nat} (hR : Reads w B 3 A n (l.flatMap boxCells)) (hl : l.length = n) (hk : k < n) : ∃ (hk' : k < l.length) (ad : Addr), A = some ad ∧ ad.block < B ∧ w.cell? (ad.add (k * 3)) = some (.int .i64 l[k].F) ∧ w.cell? ⟨(ad.add (k * 3)).block, (ad.add (k * 3)).off + 1, none⟩ = some (.int .i64 l[k].L) ∧ w.cell? ⟨(ad.add (k * 3)).block, (ad.add (k * 3)).off + 2, none⟩ = some (.int .i64 l[k].T) := by
  have hk' : k < l.length := by omega
  obtain ⟨ad, e, hb, hc⟩ := hR.2 (by omega)
  have hg := fun j hj => flat_get boxCells_len l k j hk' hj
  exact ⟨hk', ad, e, hb, hc _ _ (hg 0 (by omega)), by rw [← add_next _ _ _ (by omega)]; exact hc _ _ (hg 1 (by omega)), by rw [← add_next _ _ _ (by omega)]; exact hc _ _ (hg 2 (by omega))⟩
theorem Boxes.at_ {k : Nat} (h : Boxes w B A n l) (hk : k < n) : ∃ (hk' : k < l.length) (ad : Addr), A = some ad ∧ ad.block < B ∧ w.cell? (ad.add (k * 3)) = some (.int .i64 l[k].F) ∧ w.cell? ⟨(ad.add (k * 3)).block, (ad.add (k * 3)).off + 1, none⟩ = some (.int .i64 l[k].L) ∧ w.cell? ⟨(ad.add (k * 3)).block, (ad.add (k * 3)).off + 2, none⟩ = some (.int .i64 l[k].T) := by
  have hl := h.len
  have hk' : k < l.length := by omega
  obtain ⟨ad, e, hb, hc⟩ := h.rd.2 (by omega)
  have hg := fun j hj => flat_get boxCells_len l k j hk' hj
  exact ⟨hk', ad, e, hb, hc _ _ (hg 0 (by omega)), by rw [← add_next _ _ _ (by omega)]; exact hc _ _ (hg 1 (by omega)), by rw [← add_next _ _ _ (by omega)]; exact hc _ _ (hg 2 (by omega))⟩
end
structure PStep where
  (K F L T I : Int)
  (b a : ByteArray)
def stepCells (s : PStep) : List Value := [.int .i64 s.K, .int .i64 s.F, .int .i64 s.L, .int .i64 s.T, .int .i64 s.I, .string s.b, .string s.a]
theorem stepCells_len (s : PStep) : (stepCells s).length = 7 := rfl
structure Steps (w : World) (B : Nat) (A : Option Addr) (n : Nat) (l : List PStep) : Prop where
  rd : Reads w B 7 A n (l.flatMap stepCells)
  nb : n ≤ 16777216
  sb : ∀ s ∈ l, s.b.size ≤ 16777216 ∧ s.a.size ≤ 16777216
section
variable {w w' : World} {B B' n : Nat} {A : Option Addr} {l : List PStep}
theorem Steps.len (h : Steps w B A n l) : l.length = n := by
  have := h.rd.1; rw [flat_len stepCells_len] at this; omega
theorem Steps.below (h : Steps w B A n l) (hb : Below B w w') : Steps w' B A n l := ⟨h.rd.below hb, h.nb, h.sb⟩
theorem Steps.more (h : Steps w B A n l) (hB : B ≤ B') : Steps w B' A n l := ⟨h.rd.more hB, h.nb, h.sb⟩
theorem Steps.drewN (h : Steps w B A n l) (k : Nat) : Steps (w.drewN k) B A n l := ⟨h.rd.drewN k, h.nb, h.sb⟩
theorem Steps.alloc (h : Steps w B A n l) (hB : B ≤ w.heap.size) (o : Obj) : Steps (w.alloc o) B A n l := ⟨h.rd.alloc hB o, h.nb, h.sb⟩
theorem stepCells_at {w : World} {B n : Nat} {A : Option Addr} {l : List PStep} {k : Nat} (hR : Reads w B 7 A n (l.flatMap stepCells)) (hl : l.length = n) (hk : k < n) : ∃ (hk' : k < l.length) (ad : Addr), A = some ad ∧ ad.block < B ∧ w.cell? (ad.add (k * 7)) = some (.int .i64 l[k].K) ∧ w.cell? ⟨(ad.add (k * 7)).block, (ad.add (k * 7)).off + 1, none⟩ = some (.int .i64 l[k].F) ∧ w.cell? ⟨(ad.add (k * 7)).block, (ad.add (k * 7)).off + 2, none⟩ = some (.int .i64 l[k].L) ∧ w.cell? ⟨(ad.add (k * 7)).block, (ad.add (k * 7)).off + 3, none⟩ = some (.int .i64 l[k].T) ∧ w.cell? ⟨(ad.add (k * 7)).block, (ad.add (k * 7)).off + 4, none⟩ = some (.int .i64 l[k].I) ∧ w.cell? ⟨(ad.add (k * 7)).block, (ad.add (k * 7)).off + 5, none⟩ = some (.string l[k].b) ∧ w.cell? ⟨(ad.add (k * 7)).block, (ad.add (k * 7)).off + 6, none⟩ = some (.string l[k].a) := by
  have hk' : k < l.length := by omega
  obtain ⟨ad, e, hb, hc⟩ := hR.2 (by omega)
  have hg := fun j hj => flat_get stepCells_len l k j hk' hj
  exact ⟨hk', ad, e, hb, hc _ _ (hg 0 (by omega)), by rw [← add_next _ _ _ (by omega)]; exact hc _ _ (hg 1 (by omega)), by rw [← add_next _ _ _ (by omega)]; exact hc _ _ (hg 2 (by omega)), by rw [← add_next _ _ _ (by omega)]; exact hc _ _ (hg 3 (by omega)), by rw [← add_next _ _ _ (by omega)]; exact hc _ _ (hg 4 (by omega)), by rw [← add_next _ _ _ (by omega)]; exact hc _ _ (hg 5 (by omega)), by rw [← add_next _ _ _ (by omega)]; exact hc _ _ (hg 6 (by omega))⟩
theorem Steps.at_ {k : Nat} (h : Steps w B A n l) (hk : k < n) : ∃ (hk' : k < l.length) (ad : Addr), A = some ad ∧ ad.block < B ∧ w.cell? (ad.add (k * 7)) = some (.int .i64 l[k].K) ∧ w.cell? ⟨(ad.add (k * 7)).block, (ad.add (k * 7)).off + 1, none⟩ = some (.int .i64 l[k].F) ∧ w.cell? ⟨(ad.add (k * 7)).block, (ad.add (k * 7)).off + 2, none⟩ = some (.int .i64 l[k].L) ∧ w.cell? ⟨(ad.add (k * 7)).block, (ad.add (k * 7)).off + 3, none⟩ = some (.int .i64 l[k].T) ∧ w.cell? ⟨(ad.add (k * 7)).block, (ad.add (k * 7)).off + 4, none⟩ = some (.int .i64 l[k].I) ∧ w.cell? ⟨(ad.add (k * 7)).block, (ad.add (k * 7)).off + 5, none⟩ = some (.string l[k].b) ∧ w.cell? ⟨(ad.add (k * 7)).block, (ad.add (k * 7)).off + 6, none⟩ = some (.string l[k].a) ∧ l[k].b.size ≤ 16777216 ∧ l[k].a.size ≤ 16777216 := by
  have hl := h.len
  have hk' : k < l.length := by omega
  obtain ⟨ad, e, hb, hc⟩ := h.rd.2 (by omega)
  have hg := fun j hj => flat_get stepCells_len l k j hk' hj
  have hs := h.sb _ (List.getElem_mem hk')
  exact ⟨hk', ad, e, hb, hc _ _ (hg 0 (by omega)), by rw [← add_next _ _ _ (by omega)]; exact hc _ _ (hg 1 (by omega)), by rw [← add_next _ _ _ (by omega)]; exact hc _ _ (hg 2 (by omega)), by rw [← add_next _ _ _ (by omega)]; exact hc _ _ (hg 3 (by omega)), by rw [← add_next _ _ _ (by omega)]; exact hc _ _ (hg 4 (by omega)), by rw [← add_next _ _ _ (by omega)]; exact hc _ _ (hg 5 (by omega)), by rw [← add_next _ _ _ (by omega)]; exact hc _ _ (hg 6 (by omega)), hs.1, hs.2⟩
end
structure PPaper where
  (k g s : Int)
def paperCells (s : PPaper) : List Value := [.int .i64 s.k, .int .i64 s.g, .int .i64 s.s]
theorem paperCells_len (s : PPaper) : (paperCells s).length = 3 := rfl
structure Papers (w : World) (B : Nat) (A : Option Addr) (n : Nat) (l : List PPaper) : Prop where
  rd : Reads w B 3 A n (l.flatMap paperCells)
  nb : n ≤ 16777216
section
variable {w w' : World} {B B' n : Nat} {A : Option Addr} {l : List PPaper}
theorem Papers.len (h : Papers w B A n l) : l.length = n := by
  have := h.rd.1; rw [flat_len paperCells_len] at this; omega
theorem Papers.below (h : Papers w B A n l) (hb : Below B w w') : Papers w' B A n l := ⟨h.rd.below hb, h.nb⟩
theorem Papers.more (h : Papers w B A n l) (hB : B ≤ B') : Papers w B' A n l := ⟨h.rd.more hB, h.nb⟩
theorem Papers.drewN (h : Papers w B A n l) (k : Nat) : Papers (w.drewN k) B A n l := ⟨h.rd.drewN k, h.nb⟩
theorem Papers.alloc (h : Papers w B A n l) (hB : B ≤ w.heap.size) (o : Obj) : Papers (w.alloc o) B A n l := ⟨h.rd.alloc hB o, h.nb⟩
theorem paperCells_at {w : World} {B n : Nat} {A : Option Addr} {l : List PPaper} {k : Nat} (hR : Reads w B 3 A n (l.flatMap paperCells)) (hl : l.length = n) (hk : k < n) : ∃ (hk' : k < l.length) (ad : Addr), A = some ad ∧ ad.block < B ∧ w.cell? (ad.add (k * 3)) = some (.int .i64 l[k].k) ∧ w.cell? ⟨(ad.add (k * 3)).block, (ad.add (k * 3)).off + 1, none⟩ = some (.int .i64 l[k].g) ∧ w.cell? ⟨(ad.add (k * 3)).block, (ad.add (k * 3)).off + 2, none⟩ = some (.int .i64 l[k].s) := by
  have hk' : k < l.length := by omega
  obtain ⟨ad, e, hb, hc⟩ := hR.2 (by omega)
  have hg := fun j hj => flat_get paperCells_len l k j hk' hj
  exact ⟨hk', ad, e, hb, hc _ _ (hg 0 (by omega)), by rw [← add_next _ _ _ (by omega)]; exact hc _ _ (hg 1 (by omega)), by rw [← add_next _ _ _ (by omega)]; exact hc _ _ (hg 2 (by omega))⟩
theorem Papers.at_ {k : Nat} (h : Papers w B A n l) (hk : k < n) : ∃ (hk' : k < l.length) (ad : Addr), A = some ad ∧ ad.block < B ∧ w.cell? (ad.add (k * 3)) = some (.int .i64 l[k].k) ∧ w.cell? ⟨(ad.add (k * 3)).block, (ad.add (k * 3)).off + 1, none⟩ = some (.int .i64 l[k].g) ∧ w.cell? ⟨(ad.add (k * 3)).block, (ad.add (k * 3)).off + 2, none⟩ = some (.int .i64 l[k].s) := by
  have hl := h.len
  have hk' : k < l.length := by omega
  obtain ⟨ad, e, hb, hc⟩ := h.rd.2 (by omega)
  have hg := fun j hj => flat_get paperCells_len l k j hk' hj
  exact ⟨hk', ad, e, hb, hc _ _ (hg 0 (by omega)), by rw [← add_next _ _ _ (by omega)]; exact hc _ _ (hg 1 (by omega)), by rw [← add_next _ _ _ (by omega)]; exact hc _ _ (hg 2 (by omega))⟩
end
end Go.Proofs.Yteffbjddgdjkmaa
