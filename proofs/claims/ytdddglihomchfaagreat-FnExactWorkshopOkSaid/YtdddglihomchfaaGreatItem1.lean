/- Items in memory: a name, a card; rows of them that read as a list, rows of one's own. -/
import Derived.Test.YtdddglihomchfaaGreatFrame
namespace Go.Proofs.YtdddglihomchfaaGreat
open Go.ChangeShapes Go.WideShapes Go.ChangeAt Go.RowKit
set_option linter.unusedVariables false
set_option maxRecDepth 10000

structure PItem where
  (nm : ByteArray)
  (d f : Int)
  (ss : List ByteArray)
/-- an item and where its strips lie -/
structure RItem where
  (x : PItem)
  (A : Option Addr)
  (c : Nat)
def itemCells (r : RItem) : List Value := [.string r.x.nm, .int .i64 r.x.d, .int .i64 r.x.f, .slice r.A r.x.ss.length r.c]
theorem itemCells_len (r : RItem) : (itemCells r).length = 4 := rfl
theorem itemCells_one (l : List RItem) : ∀ u ∈ l.flatMap itemCells, u.oneCell' = true := by
  intro u hu
  obtain ⟨s, _, h⟩ := List.mem_flatMap.1 hu
  simp [itemCells] at h
  rcases h with rfl | rfl | rfl | rfl <;> rfl
abbrev RItem.v (r : RItem) : Value := .slice r.A r.x.ss.length r.c

structure Items (w : World) (B : Nat) (A : Option Addr) (n : Nat) (L : List RItem) : Prop where
  rd : Reads w B 4 A n (L.flatMap itemCells)
  nb : n ≤ 16777216
  in_ : ∀ r ∈ L, Strs w B r.A r.x.ss.length r.x.ss ∧ r.x.nm.size ≤ 16777216
section
variable {w w' : World} {B B' n : Nat} {A : Option Addr} {L : List RItem}
theorem Items.len (h : Items w B A n L) : L.length = n := by
  have := h.rd.1; rw [flat_len itemCells_len] at this; omega
theorem Items.below (h : Items w B A n L) (hb : Below B w w') : Items w' B A n L := ⟨h.rd.below hb, h.nb, fun r hr => ⟨(h.in_ r hr).1.below hb, (h.in_ r hr).2⟩⟩
theorem Items.more (h : Items w B A n L) (hB : B ≤ B') : Items w B' A n L := ⟨h.rd.more hB, h.nb, fun r hr => ⟨(h.in_ r hr).1.more hB, (h.in_ r hr).2⟩⟩
theorem Items.drewN (h : Items w B A n L) (k : Nat) : Items (w.drewN k) B A n L := ⟨h.rd.drewN k, h.nb, fun r hr => ⟨(h.in_ r hr).1.drewN k, (h.in_ r hr).2⟩⟩
theorem Items.alloc (h : Items w B A n L) (hB : B ≤ w.heap.size) (o : Obj) : Items (w.alloc o) B A n L := ⟨h.rd.alloc hB o, h.nb, fun r hr => ⟨(h.in_ r hr).1.alloc hB o, (h.in_ r hr).2⟩⟩
theorem itemCells_at {w : World} {B n : Nat} {A : Option Addr} {l : List RItem} {k : Nat} (hR : Reads w B 4 A n (l.flatMap itemCells)) (hl : l.length = n) (hk : k < n) : ∃ (hk' : k < l.length) (ad : Addr), A = some ad ∧ ad.block < B ∧ w.cell? (ad.add (k * 4)) = some (.string l[k].x.nm) ∧ w.cell? ⟨(ad.add (k * 4)).block, (ad.add (k * 4)).off + 1, none⟩ = some (.int .i64 l[k].x.d) ∧ w.cell? ⟨(ad.add (k * 4)).block, (ad.add (k * 4)).off + 2, none⟩ = some (.int .i64 l[k].x.f) ∧ w.cell? ⟨(ad.add (k * 4)).block, (ad.add (k * 4)).off + 3, none⟩ = some (.slice l[k].A l[k].x.ss.length l[k].c) := by
  have hk' : k < l.length := by omega
  obtain ⟨ad, e, hb, hc⟩ := hR.2 (by omega)
  have hg := fun j hj => flat_get itemCells_len l k j hk' hj
  exact ⟨hk', ad, e, hb, hc _ _ (hg 0 (by omega)), by rw [← add_next _ _ _ (by omega)]; exact hc _ _ (hg 1 (by omega)), by rw [← add_next _ _ _ (by omega)]; exact hc _ _ (hg 2 (by omega)), by rw [← add_next _ _ _ (by omega)]; exact hc _ _ (hg 3 (by omega))⟩
theorem Items.at_ {k : Nat} (h : Items w B A n L) (hk : k < n) : ∃ (hk' : k < L.length) (ad : Addr), A = some ad ∧ ad.block < B ∧ w.cell? (ad.add (k * 4)) = some (.string L[k].x.nm) ∧ w.cell? ⟨(ad.add (k * 4)).block, (ad.add (k * 4)).off + 1, none⟩ = some (.int .i64 L[k].x.d) ∧ w.cell? ⟨(ad.add (k * 4)).block, (ad.add (k * 4)).off + 2, none⟩ = some (.int .i64 L[k].x.f) ∧ w.cell? ⟨(ad.add (k * 4)).block, (ad.add (k * 4)).off + 3, none⟩ = some (.slice L[k].A L[k].x.ss.length L[k].c) ∧ Strs w B L[k].A L[k].x.ss.length L[k].x.ss ∧ L[k].x.nm.size ≤ 16777216 := by
  obtain ⟨hk', ad, e, hb, h0, h1, h2, h3⟩ := itemCells_at h.rd h.len hk
  have hi := h.in_ _ (List.getElem_mem hk')
  exact ⟨hk', ad, e, hb, h0, h1, h2, h3, hi.1, hi.2⟩
end

/-- a row of items of one's own: the row and each item's strips lie in blocks of a range, apart from one another -/
structure OwnItems (w : World) (lo hi : Nat) (A : Option Addr) (n c : Nat) (L : List RItem) : Prop where
  row : w.ownsRow lo 132 4 (.slice A n c) n (L.flatMap itemCells)
  top : ∀ k, (Value.slice A n c).ownBlock = some k → k < hi
  in_ : ∀ r ∈ L, OwnS w lo hi r.A r.c r.x.ss
  apart : L.Pairwise (fun r s => ∀ k, r.v.ownBlock = some k → s.v.ownBlock ≠ some k)
section
variable {w w' : World} {lo hi lo' hi' n c : Nat} {A : Option Addr} {L : List RItem}
theorem OwnItems.len (h : OwnItems w lo hi A n c L) : L.length = n := by
  have := h.row.1; rw [flat_len itemCells_len] at this; omega
theorem OwnItems.within {l h : Nat} (ho : OwnItems w lo hi A n c L) (hW : Within l h w w') (hd : hi ≤ l ∨ h ≤ lo) : OwnItems w' lo hi A n c L :=
  ⟨own_within ho.row hW (fun k hk => by have h1 := ho.top k hk; have h2 := (ho.row.lt k hk).1; omega), ho.top, fun r hr => (ho.in_ r hr).within hW hd, ho.apart⟩
theorem OwnItems.below (ho : OwnItems w lo hi A n c L) (hb : Below w.heap.size w w') : OwnItems w' lo hi A n c L := ⟨own_below ho.row hb, ho.top, fun r hr => (ho.in_ r hr).below hb, ho.apart⟩
theorem OwnItems.box {g : Nat} {cs : Array Value} {t : TypeId} {fr : Nat × Nat} (ho : OwnItems w lo hi A n c L) (hk : w.heap[g]? = some (.cells cs t fr)) (ht : t ∉ rowTys) (hg : w.grownBy w' (some g)) : OwnItems w' lo hi A n c L := ⟨own_box ho.row (by decide) hk ht hg, ho.top, fun r hr => (ho.in_ r hr).box hk ht hg, ho.apart⟩
theorem OwnItems.boxy (ho : OwnItems w lo hi A n c L) (h : Boxy w w') : OwnItems w' lo hi A n c L := ⟨own_boxy ho.row (by decide) h, ho.top, fun r hr => (ho.in_ r hr).boxy h, ho.apart⟩
theorem OwnItems.drew (ho : OwnItems w lo hi A n c L) : OwnItems w.drew lo hi A n c L := ⟨ho.row, ho.top, fun r hr => (ho.in_ r hr).drew, ho.apart⟩
theorem OwnItems.alloc (ho : OwnItems w lo hi A n c L) (o : Obj) : OwnItems (w.alloc o) lo hi A n c L := ⟨ho.row.alloc _, ho.top, fun r hr => (ho.in_ r hr).alloc _, ho.apart⟩
theorem OwnItems.wide (ho : OwnItems w lo hi A n c L) (h1 : lo' ≤ lo) (h2 : hi ≤ hi') : OwnItems w lo' hi' A n c L :=
  ⟨own_base ho.row h1, fun k hk => by have := ho.top k hk; omega, fun r hr => (ho.in_ r hr).wide h1 h2, ho.apart⟩
theorem OwnItems.drewN (ho : OwnItems w lo hi A n c L) (k : Nat) : OwnItems (w.drewN k) lo hi A n c L :=
  ⟨ho.row, ho.top, fun r hr => ⟨(ho.in_ r hr).row, (ho.in_ r hr).top⟩, ho.apart⟩
theorem OwnItems.rd (ho : OwnItems w lo hi A n c L) (hn : n ≤ 16777216) (hs : ∀ r ∈ L, r.x.ss.length ≤ 16777216 ∧ (∀ s ∈ r.x.ss, s.size ≤ 16777216) ∧ r.x.nm.size ≤ 16777216) : Items w w.heap.size A n L :=
  ⟨Reads.of_own ho.row, hn, fun r hr => ⟨(ho.in_ r hr).rd (hs r hr).1 (hs r hr).2.1, (hs r hr).2.2⟩⟩
end
/-- the items are small -/
def OkItems (P : List PItem) (m : Nat) : Prop := P.length ≤ m ∧ ∀ x ∈ P, x.ss.length ≤ m ∧ (∀ s ∈ x.ss, s.size ≤ 16777216) ∧ x.nm.size ≤ 16777216
def plI (L : List RItem) : List PItem := L.map RItem.x
theorem plI_len (L : List RItem) : (plI L).length = L.length := by simp [plI]
theorem OkItems.more {P : List PItem} {m k : Nat} (h : OkItems P m) (hm : m ≤ k) : OkItems P k := ⟨by have := h.1; omega, fun x hx => ⟨by have := (h.2 x hx).1; omega, (h.2 x hx).2⟩⟩
theorem OkItems.raw {L : List RItem} (h : OkItems (plI L) 16777216) : ∀ r ∈ L, r.x.ss.length ≤ 16777216 ∧ (∀ s ∈ r.x.ss, s.size ≤ 16777216) ∧ r.x.nm.size ≤ 16777216 := fun r hr => h.2 r.x (List.mem_map.2 ⟨r, hr, rfl⟩)
theorem OwnItems.rdOk {w : World} {lo hi n c : Nat} {A : Option Addr} {L : List RItem} (ho : OwnItems w lo hi A n c L) (hP : OkItems (plI L) 16777216) : Items w w.heap.size A n L := by
  have hl := ho.len
  have := hP.1
  rw [plI_len] at this
  exact ho.rd (by omega) hP.raw
theorem Items.ok {w : World} {B n : Nat} {A : Option Addr} {L : List RItem} (h : Items w B A n L) : OkItems (plI L) 16777216 := by
  refine ⟨by rw [plI_len, h.len]; exact h.nb, fun x hx => ?_⟩
  obtain ⟨r, hr, rfl⟩ := List.mem_map.1 hx
  have h1 := (h.in_ r hr).1
  exact ⟨h1.nb, h1.sb, (h.in_ r hr).2⟩
theorem plI_get {L M : List RItem} (h : plI L = plI M) {k : Nat} (hk : k < L.length) (hk2 : k < M.length) : L[k].x = M[k].x := by
  have h1 : (plI L)[k]? = (plI M)[k]? := by rw [h]
  unfold plI at h1
  rw [List.getElem?_map, List.getElem?_map, List.getElem?_eq_getElem hk, List.getElem?_eq_getElem hk2] at h1
  simpa using h1
theorem plI_lens {L M : List RItem} (h : plI L = plI M) : L.length = M.length := by rw [← plI_len, h, plI_len]

/-- fresh items of a call -/
def FreshItems (base : Nat) (P : List PItem) (w : World) (e : Ending) (w' : World) : Prop :=
  ∃ A c L, e = .returned (.slice A P.length c) ∧ plI L = P ∧ OwnItems w' base w'.heap.size A P.length c L ∧ Below w.heap.size w w'
theorem info_itemCells : (Tryz.prog.info? 132).map (fun i => (i.zero, i.size, i.bytes)) = some (some (.agg #[.string ByteArray.empty, .int .i64 0, .int .i64 0, .slice none 0 0]), 4, 56) := by kernel_rfl

/-- an item with a card of its own is put behind a row of one's own -/
theorem OwnItems.append {w w' : World} {lo n c c' : Nat} {A A' : Option Addr} {L : List RItem} {r : RItem} (ho : OwnItems w lo w.heap.size A n c L) (hr : OwnS w lo w.heap.size r.A r.c r.x.ss)
    (hne : ∀ s ∈ L, ∀ k, s.v.ownBlock = some k → r.v.ownBlock ≠ some k) (hg : w.grownBy w' (Value.slice A n c).ownBlock) (h2 : w'.ownsRow lo 132 4 (.slice A' (n + 1) c') (n + 1) (L.flatMap itemCells ++ itemCells r)) :
    OwnItems w' lo w'.heap.size A' (n + 1) c' (L ++ [r]) := by
  have key : ∀ s : RItem, OwnS w lo w.heap.size s.A s.c s.x.ss → OwnS w' lo w'.heap.size s.A s.c s.x.ss := fun s hs =>
    ⟨own_grown hs.row hg (fun k hk => by
      intro he
      exact own_ne_type hs.row ho.row (by decide) k hk he), fun k hk => by have h1 := hs.top k hk; have h2 := hg.size; omega⟩
  refine ⟨by rw [flat_snoc]; exact h2, fun k hk => (h2.lt k hk).2, ?_, ?_⟩
  · intro s hs
    rcases List.mem_append.1 hs with h | h
    · exact key s (ho.in_ s h)
    · have := List.mem_singleton.1 h
      subst this
      exact key _ hr
  · rw [List.pairwise_append]
    refine ⟨ho.apart, by simp, fun a ha b hb => ?_⟩
    have := List.mem_singleton.1 hb
    subst this
    exact hne a ha
/-- nothing yet -/
theorem OwnItems.nil {w : World} {lo hi c : Nat} {A : Option Addr} (h : w.ownsRow lo 132 4 (.slice A 0 c) 0 []) (ht : ∀ k, (Value.slice A 0 c).ownBlock = some k → k < hi) : OwnItems w lo hi A 0 c [] :=
  ⟨h, ht, (fun r hr => absurd hr (by simp)), List.Pairwise.nil⟩
end Go.Proofs.YtdddglihomchfaaGreat
