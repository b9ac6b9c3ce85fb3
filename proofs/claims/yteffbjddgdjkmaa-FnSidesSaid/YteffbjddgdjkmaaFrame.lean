/- A frame for what a call writes: only blocks of a range are touched; what lies outside stays. -/
import Derived.Test.YteffbjddgdjkmaaLawKit3
namespace Go.Proofs.Yteffbjddgdjkmaa
open Go.ChangeShapes Go.WideShapes Go.ChangeAt Go.RowKit
set_option linter.unusedVariables false
set_option maxRecDepth 10000

/-- the types of which rows are made -/
def rowTys : List TypeId := [9
  , 86
  , 63
  , 35
  , 3
  , 69
  ]
/-- a block that holds a variable of a struct's type -/
def boxAt (w : World) (k : Nat) : Prop := ∃ cs t fr, w.heap[k]? = some (.cells cs t fr) ∧ t ∉ rowTys
/-- only blocks from lo on and below hi, and new ones, are touched, and no variable of a struct's type -/
structure Within (lo hi : Nat) (w w' : World) : Prop where
  os : w'.os = w.os
  tape : w'.tape = w.tape
  output : w'.output = w.output
  size : w.heap.size ≤ w'.heap.size
  block : ∀ k, k < w.heap.size → (k < lo ∨ hi ≤ k ∨ boxAt w k) → w'.heap[k]? = w.heap[k]?
section
variable {lo hi lo' hi' : Nat} {w w' a b c : World}
theorem Within.refl (lo hi : Nat) (w : World) : Within lo hi w w := ⟨rfl, rfl, rfl, Nat.le_refl _, fun _ _ _ => rfl⟩
theorem Within.trans (h : Within lo hi a b) (k : Within lo hi b c) : Within lo hi a c :=
  ⟨k.os.trans h.os, k.tape.trans h.tape, k.output.trans h.output, Nat.le_trans h.size k.size, fun i hi h2 => by
    have h3 := h.block i hi h2
    refine (k.block i (Nat.lt_of_lt_of_le hi h.size) ?_).trans h3
    rcases h2 with h2 | h2 | ⟨cs, t, fr, h2, h4⟩
    · exact .inl h2
    · exact .inr (.inl h2)
    · exact .inr (.inr ⟨cs, t, fr, h3.trans h2, h4⟩)⟩
theorem Within.wide (h : Within lo hi a b) (h1 : lo' ≤ lo) (h2 : hi ≤ hi') : Within lo' hi' a b :=
  ⟨h.os, h.tape, h.output, h.size, fun i hi h3 => h.block i hi (by
    rcases h3 with h3 | h3 | h3
    · exact .inl (by omega)
    · exact .inr (.inl (by omega))
    · exact .inr (.inr h3))⟩
theorem Within.of_below (h : Below w.heap.size w w') : Within lo hi w w' := ⟨h.os, h.tape, h.output, h.size, fun i hi _ => h.block i hi⟩
theorem Within.of_grown {base size n : Nat} {e : TypeId} {v : Value} {xs : List Value} (ho : w.ownsRow base e size v n xs) (he : e ∈ rowTys) (hg : w.grownBy w' v.ownBlock) (h1 : lo ≤ base) (h2 : ∀ k, v.ownBlock = some k → k < hi) : Within lo hi w w' :=
  ⟨hg.os, hg.tape, hg.output, hg.size, fun i hi h3 => hg.block i hi (fun e1 => by
    rcases h3 with h3 | h3 | ⟨cs, t, fr, h3, h4⟩
    · have := (ho.lt i e1.symm).1; omega
    · have := h2 i e1.symm; omega
    · rcases ho.2 with ⟨rfl, _⟩ | ⟨g, cap, cur, rfl, _, hgg, _⟩
      · simp [Value.ownBlock] at e1
      · simp [Value.ownBlock] at e1
        subst e1
        rw [h3] at hgg
        injection hgg with q; injection q with _ q
        subst q
        exact h4 he)⟩
theorem Within.below {B : Nat} (h : Within lo hi w w') (hB : B ≤ lo) (hs : B ≤ w.heap.size) : Below B w w' :=
  ⟨h.os, h.tape, h.output, h.size, fun i hi => h.block i (by omega) (.inl (by omega))⟩
theorem Within.blk {g : Nat} {o : Obj} (h : Within lo hi w w') (hg : w.heap[g]? = some o) (hx : g < lo ∨ hi ≤ g) : w'.heap[g]? = some o := (h.block g (blk_lt hg) (by omega)).trans hg
theorem Within.box {g : Nat} {cs : Array Value} {t : TypeId} {fr : Nat × Nat} (h : Within lo hi w w') (hg : w.heap[g]? = some (.cells cs t fr)) (hx : t ∉ rowTys := by decide) : w'.heap[g]? = some (.cells cs t fr) := (h.block g (blk_lt hg) (.inr (.inr ⟨cs, t, fr, hg, hx⟩))).trans hg
theorem own_within {base size n : Nat} {e : TypeId} {v : Value} {xs : List Value} (ho : w.ownsRow base e size v n xs) (h : Within lo hi w w') (hx : ∀ k, v.ownBlock = some k → k < lo ∨ hi ≤ k) : w'.ownsRow base e size v n xs := by
  refine ⟨ho.1, ?_⟩
  rcases ho.2 with hn | ⟨g, cap, cur, rfl, hb, hg, rest⟩
  · exact .inl hn
  · exact .inr ⟨g, cap, cur, rfl, hb, (h.block g (blk_lt hg) (by have := hx g rfl; omega)).trans hg, rest⟩
theorem own_ne_type {b1 b2 s1 s2 n1 n2 : Nat} {e1 e2 : TypeId} {v1 v2 : Value} {x1 x2 : List Value} (h1 : w.ownsRow b1 e1 s1 v1 n1 x1) (h2 : w.ownsRow b2 e2 s2 v2 n2 x2) (hne : e1 ≠ e2) : ∀ k, v1.ownBlock = some k → v2.ownBlock ≠ some k := by
  intro k hk hk2
  rcases h1.2 with ⟨rfl, _⟩ | ⟨g1, _, _, rfl, _, hg1, _⟩
  · simp [Value.ownBlock] at hk
  · rcases h2.2 with ⟨rfl, _⟩ | ⟨g2, _, _, rfl, _, hg2, _⟩
    · simp [Value.ownBlock] at hk2
    · simp [Value.ownBlock] at hk hk2
      subst hk
      subst hk2
      rw [hg1] at hg2
      injection hg2 with h; injection h with _ h
      exact hne h
theorem own_grown {base size n : Nat} {e : TypeId} {v : Value} {xs : List Value} {row : Option Nat} (ho : w.ownsRow base e size v n xs) (hg : w.grownBy w' row) (hx : ∀ k, v.ownBlock = some k → row ≠ some k) : w'.ownsRow base e size v n xs := by
  refine ho.kept hg ?_
  cases hv : v.ownBlock with
  | none => exact .inl rfl
  | some k => exact .inr (fun he => hx k hv he.symm)
/-- a variable's stores touch no row -/
theorem own_box {base size n g : Nat} {e : TypeId} {v : Value} {xs : List Value} {cs : Array Value} {t : TypeId} {fr : Nat × Nat} (ho : w.ownsRow base e size v n xs) (he : e ∈ rowTys) (hk : w.heap[g]? = some (.cells cs t fr)) (ht : t ∉ rowTys) (hg : w.grownBy w' (some g)) : w'.ownsRow base e size v n xs := by
  refine own_grown ho hg ?_
  intro k hk2 he2
  injection he2 with he2
  subst he2
  rcases ho.2 with ⟨rfl, _⟩ | ⟨g1, _, _, rfl, _, hg1, _⟩
  · simp [Value.ownBlock] at hk2
  · simp [Value.ownBlock] at hk2
    subst hk2
    rw [hk] at hg1
    injection hg1 with q; injection q with _ q
    subst q
    exact ht he
/-- only variables of structs' types and new blocks are touched -/
structure Boxy (w w' : World) : Prop where
  size : w.heap.size ≤ w'.heap.size
  block : ∀ k, k < w.heap.size → ¬ boxAt w k → w'.heap[k]? = w.heap[k]?
theorem Boxy.refl (w : World) : Boxy w w := ⟨Nat.le_refl _, fun _ _ _ => rfl⟩
theorem Boxy.setCell (h : Boxy w w') {p : Addr} (hp : boxAt w p.block ∨ w.heap.size ≤ p.block) (u : Value) : Boxy w (w'.setCell p u) :=
  ⟨by simpa [World.setCell] using h.size, fun k hk hn => (Below.heap_setCell _ _ _ _ (by
    rintro rfl
    rcases hp with hp | hp
    · exact hn hp
    · omega)).trans (h.block k hk hn)⟩
theorem Boxy.alloc (h : Boxy w w') (o : Obj) : Boxy w (w'.alloc o) := ⟨by have := h.size; simp; omega, fun k hk hn => (Below.heap_alloc _ _ _ (by have := h.size; omega)).trans (h.block k hk hn)⟩
theorem Boxy.drew (h : Boxy w w') : Boxy w w'.drew := ⟨h.size, h.block⟩
theorem Boxy.drewN (h : Boxy w w') (n : Nat) : Boxy w (w'.drewN n) := ⟨h.size, h.block⟩
theorem boxy {w w' : World} (h : Boxy w w' := by repeat (first | (with_reducible exact Boxy.refl _) | (with_reducible refine Boxy.drew ?_) | (with_reducible refine Boxy.drewN ?_ _) | (with_reducible refine Boxy.alloc ?_ _) | ((with_reducible refine Boxy.setCell ?_ ?hbs _); (case hbs => first | (with_reducible exact .inl (by assumption)) | exact .inl (by assumption) | exact .inr (by simp) | exact .inr (by simp; omega))))) : Boxy w w' := h
theorem own_boxy {base size n : Nat} {e : TypeId} {v : Value} {xs : List Value} (ho : w.ownsRow base e size v n xs) (he : e ∈ rowTys) (h : Boxy w w') : w'.ownsRow base e size v n xs := by
  refine ⟨ho.1, ?_⟩
  rcases ho.2 with hn | ⟨g, cap, cur, rfl, hb, hg, rest⟩
  · exact .inl hn
  · refine .inr ⟨g, cap, cur, rfl, hb, (h.block g (blk_lt hg) ?_).trans hg, rest⟩
    rintro ⟨cs, t, fr, hq, ht⟩
    rw [hg] at hq
    injection hq with q; injection q with _ q
    subst q
    exact ht he
theorem boxAt_of {g : Nat} {cs : Array Value} {t : TypeId} {fr : Nat × Nat} (h : w.heap[g]? = some (.cells cs t fr)) (ht : t ∉ rowTys := by decide) : boxAt w g := ⟨cs, t, fr, h, ht⟩
theorem own_lo {base base' size n : Nat} {e : TypeId} {v : Value} {xs : List Value} (ho : w.ownsRow base e size v n xs) (hx : ∀ k, v.ownBlock = some k → base' ≤ k) : w.ownsRow base' e size v n xs := by
  refine ⟨ho.1, ?_⟩
  rcases ho.2 with hn | ⟨g, cap, cur, rfl, hb, rest⟩
  · exact .inl hn
  · exact .inr ⟨g, cap, cur, rfl, hx g rfl, rest⟩
end
/-- a row of strings of one's own, in blocks of a range -/
structure OwnS (w : World) (lo hi : Nat) (A : Option Addr) (c : Nat) (ss : List ByteArray) : Prop where
  row : w.ownsRow lo 9 1 (.slice A ss.length c) ss.length (ss.map Value.string)
  top : ∀ k, (Value.slice A ss.length c).ownBlock = some k → k < hi
section
variable {lo hi lo' hi' : Nat} {w w' : World} {A : Option Addr} {c : Nat} {ss : List ByteArray}
theorem OwnS.within {l h : Nat} (ho : OwnS w lo hi A c ss) (hW : Within l h w w') (hd : hi ≤ l ∨ h ≤ lo) : OwnS w' lo hi A c ss :=
  ⟨own_within ho.row hW (fun k hk => by have h1 := ho.top k hk; have h2 := (ho.row.lt k hk).1; omega), ho.top⟩
theorem OwnS.below (ho : OwnS w lo hi A c ss) (hb : Below w.heap.size w w') : OwnS w' lo hi A c ss := ⟨own_below ho.row hb, ho.top⟩
theorem OwnS.box {g : Nat} {cs : Array Value} {t : TypeId} {fr : Nat × Nat} (ho : OwnS w lo hi A c ss) (hk : w.heap[g]? = some (.cells cs t fr)) (ht : t ∉ rowTys) (hg : w.grownBy w' (some g)) : OwnS w' lo hi A c ss := ⟨own_box ho.row (by decide) hk ht hg, ho.top⟩
theorem OwnS.boxy (ho : OwnS w lo hi A c ss) (h : Boxy w w') : OwnS w' lo hi A c ss := ⟨own_boxy ho.row (by decide) h, ho.top⟩
theorem OwnS.drew (ho : OwnS w lo hi A c ss) : OwnS w.drew lo hi A c ss := ⟨ho.row, ho.top⟩
theorem OwnS.alloc (ho : OwnS w lo hi A c ss) (o : Obj) : OwnS (w.alloc o) lo hi A c ss := ⟨ho.row.alloc _, ho.top⟩
theorem OwnS.wide (ho : OwnS w lo hi A c ss) (h1 : lo' ≤ lo) (h2 : hi ≤ hi') : OwnS w lo' hi' A c ss := ⟨own_base ho.row h1, fun k hk => by have := ho.top k hk; omega⟩
theorem OwnS.of (ho : w.ownsRow lo 9 1 (.slice A ss.length c) ss.length (ss.map Value.string)) (h : w.heap.size ≤ hi) : OwnS w lo hi A c ss := ⟨ho, fun k hk => by have := (ho.lt k hk).2; omega⟩
theorem OwnS.rd (ho : OwnS w lo hi A c ss) (hn : ss.length ≤ 16777216) (hs : ∀ s ∈ ss, s.size ≤ 16777216) : Strs w w.heap.size A ss.length ss := strs_of_own ho.row hn hs
end
theorem blk4_set {w : World} {g : Nat} {t : TypeId} {z0 z1 z2 z3 : Value} (h : w.heap[g]? = some (.cells #[z0, z1, z2, z3] t (0, 0))) (a b c d : Value) :
    ((((w.setCell ⟨g, 0, none⟩ a).setCell ⟨g, 1, none⟩ b).setCell ⟨g, 2, none⟩ c).setCell ⟨g, 3, none⟩ d).heap[g]? = some (.cells #[a, b, c, d] t (0, 0)) := by
  have := blk_set (blk_set (blk_set (blk_set h 0 a) 1 b) 2 c) 3 d
  simpa using this
theorem blk7_set {w : World} {g : Nat} {t : TypeId} {z0 z1 z2 z3 z4 z5 z6 : Value} (h : w.heap[g]? = some (.cells #[z0, z1, z2, z3, z4, z5, z6] t (0, 0))) (a0 a1 a2 a3 a4 a5 a6 : Value) :
    (((((((w.setCell ⟨g, 0, none⟩ a0).setCell ⟨g, 1, none⟩ a1).setCell ⟨g, 2, none⟩ a2).setCell ⟨g, 3, none⟩ a3).setCell ⟨g, 4, none⟩ a4).setCell ⟨g, 5, none⟩ a5).setCell ⟨g, 6, none⟩ a6).heap[g]? = some (.cells #[a0, a1, a2, a3, a4, a5, a6] t (0, 0)) := by
  have := blk_set (blk_set (blk_set (blk_set (blk_set (blk_set (blk_set h 0 a0) 1 a1) 2 a2) 3 a3) 4 a4) 5 a5) 6 a6
  simpa using this
theorem blk10_set {w : World} {g : Nat} {t : TypeId} {z0 z1 z2 z3 z4 z5 z6 z7 z8 z9 : Value} (h : w.heap[g]? = some (.cells #[z0, z1, z2, z3, z4, z5, z6, z7, z8, z9] t (0, 0))) (a0 a1 a2 a3 a4 a5 a6 a7 a8 a9 : Value) :
    ((((((((((w.setCell ⟨g, 0, none⟩ a0).setCell ⟨g, 1, none⟩ a1).setCell ⟨g, 2, none⟩ a2).setCell ⟨g, 3, none⟩ a3).setCell ⟨g, 4, none⟩ a4).setCell ⟨g, 5, none⟩ a5).setCell ⟨g, 6, none⟩ a6).setCell ⟨g, 7, none⟩ a7).setCell ⟨g, 8, none⟩ a8).setCell ⟨g, 9, none⟩ a9).heap[g]? = some (.cells #[a0, a1, a2, a3, a4, a5, a6, a7, a8, a9] t (0, 0)) := by
  have := blk_set (blk_set (blk_set (blk_set (blk_set (blk_set (blk_set (blk_set (blk_set (blk_set h 0 a0) 1 a1) 2 a2) 3 a3) 4 a4) 5 a5) 6 a6) 7 a7) 8 a8) 9 a9
  simpa using this
theorem blk_other {w : World} {g : Nat} {p : Addr} {o : Obj} (h : w.heap[g]? = some o) (hne : g ≠ p.block) (u : Value) : (w.setCell p u).heap[g]? = some o := (Below.heap_setCell _ _ _ _ hne).trans h
end Go.Proofs.Yteffbjddgdjkmaa
