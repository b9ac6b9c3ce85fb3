/- Contracts of the program's and the reference's functions (Item1, Item2, Item3, Item4, Item6). -/
import Derived.Deep.DeepCutAuto
import Derived.Deep.RegionHeld3
import Derived.Test.YtlimlolciekimaaGreatDoorRows
import Derived.Test.YtlimlolciekimaaGreatDoorQFb
import Derived.Test.YtlimlolciekimaaGreatDoorQFa
namespace Go.Proofs.YtlimlolciekimaaGreatDoor
open Go.ChangeShapes Go.WideShapes Go.ChangeAt Go.RowKit
set_option linter.unusedVariables false
set_option maxRecDepth 10000
structure PItem where
  (nm : ByteArray)
  (d f : Int)
  (ss : List ByteArray)
structure RItem where
  (x : PItem)
  (A : Option Addr)
  (c : Nat)
def itemCells (r : RItem) : List Value := [.string r.x.nm, .int .i64 r.x.d, .int .i64 r.x.f, .slice r.A r.x.ss.length r.c]
theorem itemCells_len (r : RItem) : (itemCells r).length = 4 := rfl
abbrev RItem.v (r : RItem) : Value := .slice r.A r.x.ss.length r.c
structure Items (w : World) (B : Nat) (A : Option Addr) (n : Nat) (L : List RItem) : Prop where
  rd : Reads w B 4 A n (L.flatMap itemCells)
  nb : n ≤ 16777216
  in_ : ∀ r ∈ L, Strs w B r.A r.x.ss.length r.x.ss ∧ r.x.nm.size ≤ 16777216
section
variable {w w' : World} {B B' n : Nat} {A : Option Addr} {L : List RItem}
theorem Items.len (h : Items w B A n L) : L.length = n := by
  have := h.rd.1; rw [flat_len itemCells_len] at this; omega
theorem Items.below (h : Items w B A n L) (hb : Below B w w') : Items w' B A n L := ⟨h.rd.below hb, h.nb, fun r hr => ⟨(h.in_ r hr).1.below hb, (h.in_ r hr).2⟩⟩
theorem Items.alloc (h : Items w B A n L) (hB : B ≤ w.heap.size) (o : Obj) : Items (w.alloc o) B A n L := ⟨h.rd.alloc hB o, h.nb, fun r hr => ⟨(h.in_ r hr).1.alloc hB o, (h.in_ r hr).2⟩⟩
theorem itemCells_at {w : World} {B n : Nat} {A : Option Addr} {l : List RItem} {k : Nat} (hR : Reads w B 4 A n (l.flatMap itemCells)) (hl : l.length = n) (hk : k < n) : ∃ (hk' : k < l.length) (ad : Addr), A = some ad ∧ ad.block < B ∧ w.cell? (ad.add (k * 4)) = some (.string l[k].x.nm) ∧ w.cell? ⟨(ad.add (k * 4)).block, (ad.add (k * 4)).off + 1, none⟩ = some (.int .i64 l[k].x.d) ∧ w.cell? ⟨(ad.add (k * 4)).block, (ad.add (k * 4)).off + 2, none⟩ = some (.int .i64 l[k].x.f) ∧ w.cell? ⟨(ad.add (k * 4)).block, (ad.add (k * 4)).off + 3, none⟩ = some (.slice l[k].A l[k].x.ss.length l[k].c) := by
  have hk' : k < l.length := by omega
  obtain ⟨ad, e, hb, hc⟩ := hR.2 (by omega)
  have hg := fun j hj => flat_get itemCells_len l k j hk' hj
  exact ⟨hk', ad, e, hb, hc _ _ (hg 0 (by omega)), by rw [← add_next _ _ _ (by omega)]; exact hc _ _ (hg 1 (by omega)), by rw [← add_next _ _ _ (by omega)]; exact hc _ _ (hg 2 (by omega)), by rw [← add_next _ _ _ (by omega)]; exact hc _ _ (hg 3 (by omega))⟩
theorem Items.at_ {k : Nat} (h : Items w B A n L) (hk : k < n) : ∃ (hk' : k < L.length) (ad : Addr), A = some ad ∧ ad.block < B ∧ w.cell? (ad.add (k * 4)) = some (.string L[k].x.nm) ∧ w.cell? ⟨(ad.add (k * 4)).block, (ad.add (k * 4)).off + 1, none⟩ = some (.int .i64 L[k].x.d) ∧ w.cell? ⟨(ad.add (k * 4)).block, (ad.add (k * 4)).off + 2, none⟩ = some (.int .i64 L[k].x.f) ∧ w.cell? ⟨(ad.add (k * 4)).block, (ad.add (k * 4)).off + 3, none⟩ = some (.slice L[k].A L[k].x.ss.length L[k].c) ∧ Strs w B L[k].A L[k].x.ss.length L[k].x.ss ∧ L[k].x.nm.size ≤ 16777216 := by
  obtain ⟨hk', ad, e, hb, h0, h1, h2, h3⟩ := itemCells_at h.rd h.len hk
  have hi := h.in_ _ (List.getElem_mem hk')
  exact ⟨hk', ad, e, hb, h0, h1, h2, h3, hi.1, hi.2⟩
end
structure OwnItems (w : World) (lo hi : Nat) (A : Option Addr) (n c : Nat) (L : List RItem) : Prop where
  row : w.ownsRow lo 65 4 (.slice A n c) n (L.flatMap itemCells)
  top : ∀ k, (Value.slice A n c).ownBlock = some k → k < hi
  in_ : ∀ r ∈ L, OwnS w lo hi r.A r.c r.x.ss
  apart : L.Pairwise (fun r s => ∀ k, r.v.ownBlock = some k → s.v.ownBlock ≠ some k)
section
variable {w w' : World} {lo hi lo' hi' n c : Nat} {A : Option Addr} {L : List RItem}
theorem OwnItems.len (h : OwnItems w lo hi A n c L) : L.length = n := by
  have := h.row.1; rw [flat_len itemCells_len] at this; omega
theorem OwnItems.within {l h : Nat} (ho : OwnItems w lo hi A n c L) (hW : Within l h w w') (hd : hi ≤ l ∨ h ≤ lo) : OwnItems w' lo hi A n c L :=
  ⟨own_within ho.row hW (fun k hk => by have h1 := ho.top k hk; have h2 := (ho.row.lt k hk).1; omega), ho.top, fun r hr => (ho.in_ r hr).within hW hd, ho.apart⟩
theorem OwnItems.below (ho : OwnItems w lo hi A n c L) (hb : Below w.heap.size w w') : OwnItems w' lo hi A n c L := ⟨own_below ho.row hb, ho.top, fun r hr => (ho.in_ r hr).below hb, ho.apart⟩
theorem OwnItems.box {g : Nat} {cs : Array Value} {t : TypeId} {fr : Nat × Nat} (ho : OwnItems w lo hi A n c L) (hk : w.heap[g]? = some (.cells cs t fr)) (ht : t ∉ rowTys) (hg : w.grownBy w' (some g)) : OwnItems w' lo hi A n c L := ⟨own_box ho.row (by decide) hk ht hg, ho.top, fun r hr => (ho.in_ r hr).box hk ht hg, ho.apart⟩
theorem OwnItems.boxy (ho : OwnItems w lo hi A n c L) (h : Boxy w w') : OwnItems w' lo hi A n c L := ⟨own_boxy ho.row (by decide) h, ho.top, fun r hr => (ho.in_ r hr).boxy h, ho.apart⟩
theorem OwnItems.alloc (ho : OwnItems w lo hi A n c L) (o : Obj) : OwnItems (w.alloc o) lo hi A n c L := ⟨ho.row.alloc _, ho.top, fun r hr => (ho.in_ r hr).alloc _, ho.apart⟩
theorem OwnItems.rd (ho : OwnItems w lo hi A n c L) (hn : n ≤ 16777216) (hs : ∀ r ∈ L, r.x.ss.length ≤ 16777216 ∧ (∀ s ∈ r.x.ss, s.size ≤ 16777216) ∧ r.x.nm.size ≤ 16777216) : Items w w.heap.size A n L :=
  ⟨Reads.of_own ho.row, hn, fun r hr => ⟨(ho.in_ r hr).rd (hs r hr).1 (hs r hr).2.1, (hs r hr).2.2⟩⟩
end
def OkItems (P : List PItem) (m : Nat) : Prop := P.length ≤ m ∧ ∀ x ∈ P, x.ss.length ≤ m ∧ (∀ s ∈ x.ss, s.size ≤ 16777216) ∧ x.nm.size ≤ 16777216
def plI (L : List RItem) : List PItem := L.map RItem.x
theorem plI_len (L : List RItem) : (plI L).length = L.length := by simp [plI]
theorem OkItems.more {P : List PItem} {m k : Nat} (h : OkItems P m) (hm : m ≤ k) : OkItems P k := ⟨by have := h.1; omega, fun x hx => ⟨by have := (h.2 x hx).1; omega, (h.2 x hx).2⟩⟩
theorem OkItems.raw {L : List RItem} (h : OkItems (plI L) 16777216) : ∀ r ∈ L, r.x.ss.length ≤ 16777216 ∧ (∀ s ∈ r.x.ss, s.size ≤ 16777216) ∧ r.x.nm.size ≤ 16777216 := fun r hr => h.2 r.x (List.mem_map.2 ⟨r, hr, rfl⟩)
theorem OwnItems.rdOk {w : World} {lo hi n c : Nat} {A : Option Addr} {L : List RItem} (ho : OwnItems w lo hi A n c L) (hP : OkItems (plI L) 16777216) : Items w w.heap.size A n L := by
  have hl := ho.len
  have := hP.1
  rw [plI_len] at this
  exact ho.rd (by omega) hP.raw
theorem plI_get {L M : List RItem} (h : plI L = plI M) {k : Nat} (hk : k < L.length) (hk2 : k < M.length) : L[k].x = M[k].x := by
  have h1 : (plI L)[k]? = (plI M)[k]? := by rw [h]
  unfold plI at h1
  rw [List.getElem?_map, List.getElem?_map, List.getElem?_eq_getElem hk, List.getElem?_eq_getElem hk2] at h1
  simpa using h1
def FreshItems (base : Nat) (P : List PItem) (w : World) (e : Ending) (w' : World) : Prop :=
  ∃ A c L, e = .returned (.slice A P.length c) ∧ plI L = P ∧ OwnItems w' base w'.heap.size A P.length c L ∧ Below w.heap.size w w'
theorem info_itemCells : (Tryz.prog.info? 65).map (fun i => (i.zero, i.size, i.bytes)) = some (some (.agg #[.string ByteArray.empty, .int .i64 0, .int .i64 0, .slice none 0 0]), 4, 56) := by kernel_rfl
end Go.Proofs.YtlimlolciekimaaGreatDoor
namespace Go.Proofs.YtlimlolciekimaaGreatDoor
open Go.ChangeShapes Go.WideShapes Go.ChangeAt Go.RowKit
set_option linter.unusedVariables false
set_option maxRecDepth 10000
def szItem (nm : ByteArray) (ss : List ByteArray) (left : Int) : Int := if left - nm.size < 0 then -1 else szStrs ss (left - nm.size)
theorem szItem_ub (nm : ByteArray) (ss : List ByteArray) (l : Int) (h : l ≤ 1048576) : szItem nm ss l ≤ 1048576 := by
  unfold szItem; split
  · omega
  · exact sz_ub _ _ (by omega)
theorem szItem_ge (nm : ByteArray) (ss : List ByteArray) (l : Int) : -1 ≤ szItem nm ss l := by
  unfold szItem szStrs; split
  · omega
  · split <;> omega
def szIts : List PItem → Int → Int
  | [], left => left
  | x :: l, left => if szItem x.nm x.ss left < 0 then -1 else szIts l (szItem x.nm x.ss left)
def szItems (l : List PItem) (left : Int) : Int := if left - l.length < 0 then -1 else szIts l (left - l.length)
theorem szIts_drop {l : List PItem} {j : Nat} (h : j < l.length) (q : Int) : szIts (l.drop j) q = if szItem l[j].nm l[j].ss q < 0 then -1 else szIts (l.drop (j + 1)) (szItem l[j].nm l[j].ss q) := by
  rw [List.drop_eq_getElem_cons h]; rfl
theorem szIts_ub (l : List PItem) : ∀ (q : Int), q ≤ 1048576 → szIts l q ≤ 1048576 := by
  induction l with
  | nil => intro q h; exact h
  | cons s l ih => intro q h; simp only [szIts]; split <;> (first | omega | exact ih _ (szItem_ub _ _ _ h))
theorem szItems_ub (l : List PItem) (q : Int) (h : q ≤ 1048576) : szItems l q ≤ 1048576 := by
  unfold szItems; split <;> (first | omega | exact szIts_ub l _ (by omega))
theorem szItems_ge (l : List PItem) (q : Int) (h : -1 ≤ q) : -1 ≤ szItems l q := by
  have key : ∀ (l : List PItem) (q : Int), -1 ≤ q → -1 ≤ szIts l q := by
    intro l
    induction l with
    | nil => intro q h; exact h
    | cons s l ih => intro q h; simp only [szIts]; split <;> (first | omega | exact ih _ (by omega))
  unfold szItems; split <;> (first | omega | exact key _ _ (by omega))
theorem szIts_mem (l : List PItem) : ∀ (q : Int), q ≤ 1048576 → 0 ≤ szIts l q → ∀ x ∈ l, x.ss.length ≤ 1048576 ∧ (∀ s ∈ x.ss, s.size ≤ 16777216) ∧ x.nm.size ≤ 16777216 := by
  induction l with
  | nil => intro q _ _ x hx; cases hx
  | cons s l ih =>
    intro q hq h x hx
    simp only [szIts] at h
    split at h
    · omega
    · rename_i h2
      rcases List.mem_cons.1 hx with rfl | hx
      · unfold szItem at h2
        split at h2
        · omega
        · rename_i h3
          unfold szStrs at h2
          split at h2
          · omega
          · exact ⟨by omega, fun s hs => by have := tot_mem hs; omega, by omega⟩
      · exact ih _ (szItem_ub _ _ _ hq) h x hx
structure RawItems (w : World) (B : Nat) (A : Option Addr) (L : List RItem) : Prop where
  rd : Reads w B 4 A L.length (L.flatMap itemCells)
  nb : L.length ≤ 9223372036854775807
  in_ : ∀ r ∈ L, Reads w B 1 r.A r.x.ss.length (r.x.ss.map Value.string) ∧ r.x.ss.length ≤ 9223372036854775807 ∧ (∀ s ∈ r.x.ss, s.size ≤ 9223372036854775807) ∧ r.x.nm.size ≤ 9223372036854775807
theorem RawItems.below {w w' : World} {B : Nat} {A : Option Addr} {L : List RItem} (h : RawItems w B A L) (hb : Below B w w') : RawItems w' B A L := ⟨h.rd.below hb, h.nb, fun r hr => ⟨(h.in_ r hr).1.below hb, (h.in_ r hr).2⟩⟩
theorem Items.raw {w : World} {B : Nat} {A : Option Addr} {L : List RItem} (h : Items w B A L.length L) : RawItems w B A L :=
  ⟨h.rd, by have := h.nb; omega, fun r hr => by
    have h1 := h.in_ r hr
    have h2 := h1.1.nb
    exact ⟨h1.1.rd, by omega, fun s hs => by have := h1.1.sb s hs; omega, by omega⟩⟩
theorem items_of_sz {W : World} {A : Option Addr} {L : List RItem} {l : Int} (hR : RawItems W W.heap.size A L) (hl : l ≤ 1048576) (hz : 0 ≤ szItems (plI L) l) : Items W W.heap.size A L.length L ∧ OkItems (plI L) 1048576 := by
  unfold szItems at hz
  split at hz
  · omega
  · have hm := szIts_mem _ _ (by omega) hz
    have hlen := plI_len L
    refine ⟨⟨hR.rd, by omega, fun r hr => ?_⟩, by omega, hm⟩
    obtain ⟨h1, h2, h3⟩ := hm r.x (List.mem_map.2 ⟨r, hr, rfl⟩)
    exact ⟨⟨(hR.in_ r hr).1, by omega, h2⟩, h3⟩
set_option maxHeartbeats 800000 in
theorem l_szItem (nm : ByteArray) (d f : Int) (B : Nat) (A : Option Addr) (n c : Nat) (ss : List ByteArray) (left : Int) (w : World) (hB : B ≤ w.heap.size) (hR : Reads w B 1 A n (ss.map Value.string)) (hn : n ≤ 9223372036854775807) (hs : ∀ s ∈ ss, s.size ≤ 9223372036854775807) (hnm : nm.size ≤ 9223372036854775807) (h0 : -1 ≤ left) (h1 : left ≤ 1048576) :
    Calls Tryz.prog 91 #[.agg #[.string nm, .int .i64 d, .int .i64 f, .slice A n c], .int .i64 left] w fun e w' => e = .returned (.int .i64 (szItem nm ss left)) ∧ Below w.heap.size w w' := by
  by_cases h2 : left - nm.size < 0
  · have HF : Hid (szItem nm ss left = -1) := by unfold Hid szItem; rw [if_pos h2]
    go_enter Tryz.func91, Tryz.ntmps91
    go_wp2
    go_ret
    exact ⟨ret_int HF.out.symm, bel⟩
  · have HF : Hid (szItem nm ss left = szStrs ss (left - nm.size)) := by unfold Hid szItem; rw [if_neg h2]
    have hr : -1 ≤ szStrs ss (left - nm.size) := by unfold szStrs; split <;> omega
    have hc := fun (W : World) (hW : Below w.heap.size w W) => l_szCard d f B A n c ss (left - nm.size) W (Nat.le_trans hB hW.size) (hR.below (hW.mono hB)) hn hs (by omega) (by omega)
    have HC := hide hc
    clear hc
    generalize szStrs ss (left - nm.size) = q at *
    by_cases h3 : q < 0
    · have hq : q = -1 := by omega
      have HQ := Lib.hid hq
      clear hq
      go_enter Tryz.func91, Tryz.ntmps91
      go_wp2_with fail
      refine (unhide HC _ (by exact bel)).mono ?_
      rintro e w1 ⟨rfl, hb1⟩
      go_wp2
      go_ret
      exact ⟨ret_int (by rw [HF.out, HQ.out]), bel⟩
    · go_enter Tryz.func91, Tryz.ntmps91
      go_wp2_with fail
      refine (unhide HC _ (by exact bel)).mono ?_
      rintro e w1 ⟨rfl, hb1⟩
      go_wp2
      go_ret
      exact ⟨ret_int HF.out.symm, bel⟩
set_option maxHeartbeats 1600000 in
theorem l_szItemS (B : Nat) (A : Option Addr) (c : Nat) (L : List RItem) (left : Int) (w : World) (hR : RawItems w B A L) (hB : B ≤ w.heap.size) (h0 : -1 ≤ left) (h1 : left ≤ 1048576) :
    Calls Tryz.prog 45 #[.slice A L.length c, .int .i64 left] w fun e w' => e = .returned (.int .i64 (szItems (plI L) left)) ∧ Below w.heap.size w w' := by
  have hn := hR.nb
  have hl := plI_len L
  obtain ⟨n, hnl⟩ : ∃ n, n = L.length := ⟨_, rfl⟩
  rw [← hnl] at hn hl ⊢
  by_cases hlt : left - n < 0
  · have HF : Hid (szItems (plI L) left = -1) := by unfold Hid szItems; rw [if_pos (by omega)]
    clear hl hnl
    go_enter Tryz.func45, Tryz.ntmps45
    go_wp2
    go_ret
    exact ⟨ret_int HF.out.symm, bel⟩
  · have HF : Hid (szItems (plI L) left = szIts (plI L) (left - n)) := by unfold Hid szItems; rw [if_neg (by omega), hl]
    have HL := Lib.hid hl
    have HN := Lib.hid hnl
    clear hl hnl
    go_enter Tryz.func45, Tryz.ntmps45
    go_wp2
    go_loopw [1, 5] (fun q i wr => ∃ (j : Nat) (x : Int), j ≤ n ∧ i = .int .i64 j ∧ q = .int .i64 x ∧ 0 ≤ x ∧ x ≤ 1048576 ∧ Hid (szIts ((plI L).drop j) x = szIts (plI L) (left - n)) ∧ Below w.heap.size w wr) (fun _ i _ => n - (intOf i).toNat)
    case atStart => exact ⟨0, left - n, Nat.zero_le _, rfl, rfl, by omega, by omega, by unfold Hid; simp, Below.refl _ _⟩
    case round =>
      obtain ⟨j, x, hj, rfl, rfl, hx0, hx1, HX, hb⟩ := hrel
      have hzr := hb.size
      by_cases hjn : j < n
      · obtain ⟨hk1, ad, rfl, hab, hc0, hc1, hc2, hc3⟩ := itemCells_at (hR.rd.below (hb.mono hB)) rfl (by have := HN.out; omega : j < L.length)
        obtain ⟨g1, g2, g3, g4⟩ := hR.in_ _ (List.getElem_mem hk1)
        have hx : (plI L)[j]'(by have := HL.out; omega) = L[j].x := by simp [plI]
        have HST := Lib.hid (szIts_drop (l := plI L) (j := j) (by have := HL.out; omega) x)
        rw [hx] at HST
        clear hx
        have hge := szItem_ge L[j].x.nm L[j].x.ss x
        have hub := szItem_ub L[j].x.nm L[j].x.ss x (by omega)
        have hcon := l_szItem L[j].x.nm L[j].x.d L[j].x.f B L[j].A _ L[j].c L[j].x.ss x wr (by omega) (g1.below (hb.mono hB)) g2 g3 g4 (by omega) (by omega)
        have HCON := hide hcon
        clear hcon g1 g2 g3
        generalize hy : szItem L[j].x.nm L[j].x.ss x = y at *
        clear hy
        by_cases hneg : y < 0
        · have HR : Hid (szIts (plI L) (left - n) = -1) := by unfold Hid; rw [← HX.out, HST.out, if_pos hneg]
          go_wp2_with (first | (go_at_call 91; refine (unhide HCON).mono ?_; rintro e w1 ⟨rfl, hb1⟩))
          go_ret
          exact ⟨ret_int (by rw [HF.out, HR.out]), bel⟩
        · have HR : Hid (szIts ((plI L).drop (j + 1)) y = szIts (plI L) (left - n)) := by unfold Hid; rw [← HX.out, HST.out, if_neg hneg]
          go_wp2_with (first | (go_at_call 91; refine (unhide HCON).mono ?_; rintro e w1 ⟨rfl, hb1⟩))
          go_roundw
          case rel => exact ⟨j + 1, y, by omega, by go_num, rfl, by omega, by omega, HR.out, bel⟩
          case measure => simp [intOf]; omega
      · have hjn' : j = n := by omega
        have hd : (plI L).drop j = [] := List.drop_eq_nil_of_le (by have := HL.out; omega)
        have HR : Hid (szIts (plI L) (left - n) = x) := by unfold Hid; rw [← HX.out, hd]; rfl
        subst hjn'
        clear hd
        go_wp2
        go_ret
        exact ⟨ret_int (by rw [HF.out, HR.out]), hb⟩
def UItem (nm : ByteArray) (d f : Int) (ss : List ByteArray) (w : World) (e : Ending) (w' : World) : Prop :=
  ∃ A c, e = .returned (.agg #[.string nm, .int .i64 d, .int .i64 f, .slice A ss.length c]) ∧ OwnS w' w.heap.size w'.heap.size A c ss ∧ Below w.heap.size w w'
set_option maxHeartbeats 800000 in
theorem u_toItem (nm : ByteArray) (d f : Int) (B : Nat) (A : Option Addr) (n c : Nat) (ss : List ByteArray) (w : World) (hS : Strs w B A n ss) (hB : B ≤ w.heap.size) :
    Calls Tryz.prog 100 #[.agg #[.string nm, .int .i64 d, .int .i64 f, .slice A n c]] w (UItem nm d f ss w) := by
  go_enter Tryz.func100, Tryz.ntmps100
  go_wp2_with fail
  refine (l_toCard d f B A n c ss _ (by exact hS.below (Below.mono (B := w.heap.size) bel hB)) (by simp; omega)).mono ?_
  rintro e w1 ⟨A1, c1, rfl, ho1, hb1⟩
  obtain ⟨hcb, hfb⟩ := bcell hb1
  have hz_w1_0 : w.heap.size < w1.heap.size := (by have hzz := hb1.size; (try simp at hzz); omega); have hy_w1_0 := Nat.le_of_lt hz_w1_0; have hz_w1_1 : w.heap.size + 1 < w1.heap.size := (by have hzz := hb1.size; (try simp at hzz); omega); have hy_w1_1 := Nat.le_of_lt hz_w1_1; have hz_w1_2 : w.heap.size + 1 + 1 < w1.heap.size := (by have hzz := hb1.size; (try simp at hzz); omega); have hy_w1_2 := Nat.le_of_lt hz_w1_2
  go_wp2
  refine bodyPost_ret (v := .agg #[.string nm, .int .i64 d, .int .i64 f, .slice A1 ss.length c1]) (by simp [results, Tryz.results100, go_sem, *]) rfl ?_
  refine ⟨A1, c1, rfl, OwnS.of (own_up ho1 upr (by first | exact Nat.le_refl _ | (simp; done) | omega | (simp; omega) | exact (‹_ ∧ _ ∧ Below _ _ _›).2.2.size)) (by simp), bel⟩
theorem set4 (A C : List Value) (p : Nat) (hp : A.length = p) (z0 z1 z2 z3 c0 c1 c2 c3 : Value) : (((((A ++ ([z0, z1, z2, z3] ++ C)).set (p) c0).set (p + 1) c1).set (p + 2) c2).set (p + 3) c3) = A ++ ([c0, c1, c2, c3] ++ C) := by
  subst hp
  induction A with
  | nil => rfl
  | cons a A ih =>
    simp only [List.cons_append, List.length_cons, Nat.add_right_comm _ 1, List.set_cons_succ]
    exact congrArg (a :: ·) (by simp)
theorem OwnItems.put {w w' : World} {lo hi hi' n c : Nat} {A : Option Addr} {M1 M2 : List RItem} {r0 r : RItem} (ho : OwnItems w lo hi A n c (M1 ++ r0 :: M2)) (hr : OwnS w lo hi' r.A r.c r.x.ss) (hh : hi ≤ hi')
    (hne : ∀ s ∈ M1 ++ M2, ∀ k, s.v.ownBlock = some k → r.v.ownBlock ≠ some k) (hg : w.grownBy w' (Value.slice A n c).ownBlock) (h2 : w'.ownsRow lo 65 4 (.slice A n c) n ((M1 ++ r :: M2).flatMap itemCells)) :
    OwnItems w' lo hi' A n c (M1 ++ r :: M2) := by
  have key : ∀ s : RItem, OwnS w lo hi' s.A s.c s.x.ss → OwnS w' lo hi' s.A s.c s.x.ss := fun s hs =>
    ⟨own_grown hs.row hg (fun k hk he => own_ne_type hs.row ho.row (by decide) k hk he), hs.top⟩
  have hap := ho.apart
  rw [List.pairwise_append, List.pairwise_cons] at hap
  refine ⟨h2, fun k hk => by have := ho.top k hk; omega, ?_, ?_⟩
  · intro s hs
    rcases List.mem_append.1 hs with h | h
    · exact key s ((ho.in_ s (List.mem_append_left _ h)).wide (Nat.le_refl _) hh)
    · rcases List.mem_cons.1 h with rfl | h
      · exact key _ hr
      · exact key s ((ho.in_ s (List.mem_append_right _ (List.mem_cons_of_mem _ h))).wide (Nat.le_refl _) hh)
  · rw [List.pairwise_append, List.pairwise_cons]
    refine ⟨hap.1, ⟨fun b hb k hk hk2 => hne b (List.mem_append_right _ hb) k hk2 hk, hap.2.1.2⟩, fun a ha b hb => ?_⟩
    rcases List.mem_cons.1 hb with rfl | hb
    · exact hne a (List.mem_append_left _ ha)
    · exact hap.2.2 a ha b (List.mem_cons_of_mem _ hb)
theorem OwnItems.inner {w w' : World} {lo hi n c : Nat} {A : Option Addr} {M1 M2 : List RItem} {r : RItem} {ss : List ByteArray} (ho : OwnItems w lo hi A n c (M1 ++ r :: M2)) (hl : ss.length = r.x.ss.length)
    (h1 : w'.ownsRow lo 9 1 (.slice r.A ss.length r.c) ss.length (ss.map Value.string)) (hg : w.grownBy w' r.v.ownBlock) :
    OwnItems w' lo hi A n c (M1 ++ ⟨⟨r.x.nm, r.x.d, r.x.f, ss⟩, r.A, r.c⟩ :: M2) := by
  have hap := ho.apart
  rw [List.pairwise_append, List.pairwise_cons] at hap
  have hrin := ho.in_ r (List.mem_append_right _ List.mem_cons_self)
  have hc : (M1 ++ (⟨⟨r.x.nm, r.x.d, r.x.f, ss⟩, r.A, r.c⟩ : RItem) :: M2).flatMap itemCells = (M1 ++ ⟨⟨r.x.nm, r.x.d, r.x.f, r.x.ss⟩, r.A, r.c⟩ :: M2).flatMap itemCells := by
    rw [List.flatMap_append, List.flatMap_append, List.flatMap_cons, List.flatMap_cons]
    simp [itemCells, hl]
  have hv : (RItem.v ⟨⟨r.x.nm, r.x.d, r.x.f, ss⟩, r.A, r.c⟩) = r.v := by show Value.slice r.A ss.length r.c = Value.slice r.A r.x.ss.length r.c; rw [hl]
  have hap2 := hap.2.1.1
  have hap3 := hap.2.2
  refine ⟨?_, ho.top, ?_, ?_⟩
  · rw [hc]
    exact own_grown ho.row hg (fun k hk he => own_ne_type hrin.row ho.row (by decide) k he hk)
  · intro s hs
    have key : ∀ s ∈ M1 ++ M2, (∀ k, s.v.ownBlock = some k → r.v.ownBlock ≠ some k) → OwnS w lo hi s.A s.c s.x.ss → OwnS w' lo hi s.A s.c s.x.ss := fun s _ hne hs => ⟨own_grown hs.row hg (fun k hk he => hne k hk he), hs.top⟩
    rcases List.mem_append.1 hs with h | h
    · exact key s (List.mem_append_left _ h) (fun k hk => hap3 s h r List.mem_cons_self k hk) (ho.in_ s (List.mem_append_left _ h))
    · rcases List.mem_cons.1 h with rfl | h
      · refine ⟨h1, fun k hk => hrin.top k ?_⟩
        rw [hl] at hk
        exact hk
      · exact key s (List.mem_append_right _ h) (fun k hk he => hap2 s h k he hk) (ho.in_ s (List.mem_append_right _ (List.mem_cons_of_mem _ h)))
  · rw [List.pairwise_append, List.pairwise_cons, hv]
    refine ⟨hap.1, ⟨hap2, hap.2.1.2⟩, fun a ha b hb => ?_⟩
    rcases List.mem_cons.1 hb with rfl | hb
    · rw [hv]; exact hap3 a ha r List.mem_cons_self
    · exact hap3 a ha b (List.mem_cons_of_mem _ hb)
def zItem : RItem := ⟨⟨ByteArray.empty, 0, 0, []⟩, none, 0⟩
theorem zItem_own (w : World) (lo hi : Nat) : OwnS w lo hi zItem.A zItem.c zItem.x.ss := ⟨World.ownsRow_nil w _ _ _, fun k hk => by simp [zItem, Value.ownBlock] at hk⟩
def UItems (P : List PItem) (w : World) (e : Ending) (w' : World) : Prop :=
  ∃ A c L, e = .returned (.slice A P.length c) ∧ plI L = P ∧ OwnItems w' w.heap.size w'.heap.size A P.length c L ∧ Below w.heap.size w w'
theorem flat_reps (n : Nat) : (List.replicate n zItem).flatMap itemCells = reps [.string ByteArray.empty, .int .i64 0, .int .i64 0, .slice none 0 0] n := by
  induction n with
  | zero => rfl
  | succ n ih => rw [List.replicate_succ, List.flatMap_cons, ih, reps_succ]; rfl
set_option maxHeartbeats 3200000 in
theorem u_toItemS (P : List PItem) (B : Nat) (A : Option Addr) (c : Nat) (L : List RItem) (w : World) (hp : plI L = P) (hS : Items w B A L.length L) (hB : B ≤ w.heap.size) :
    Calls Tryz.prog 52 #[.slice A L.length c] w (UItems P w) := by
  have hn := hS.nb
  have hl := plI_len L
  rw [hp] at hl
  obtain ⟨n, hnl⟩ : ∃ n, n = L.length := ⟨_, rfl⟩
  rw [← hnl] at hn hl ⊢
  have HL := Lib.hid hl
  have HN := Lib.hid hnl
  have HP := Lib.hid hp
  clear hl hp hnl
  obtain ⟨i0, hi0, hz0, hz1, hz2⟩ := info_parts info_itemCells
  have hmk := run_make_rowN (P := Tryz.prog) 30 65 i0 _ Tryz.underlying30 hi0 hz0 .i64 .i64 n n (Nat.le_refl _) (by rw [hz2]; omega) (by omega) w
  rw [hz1] at hmk
  go_enter Tryz.func52, Tryz.ntmps52
  go_wp2
  go_loopw [4] (fun i wr => ∃ (j : Nat) (M : List RItem), j ≤ n ∧ i = .int .i64 j ∧ Hid (M.length = j) ∧ Hid (plI M = P.take j) ∧ OwnItems wr w.heap.size wr.heap.size (some ⟨w.heap.size, 0, none⟩) n n (M ++ List.replicate (n - j) zItem) ∧ Below w.heap.size w wr) (fun i _ => n - (intOf i).toNat)
  case atStart =>
    refine ⟨0, [], Nat.zero_le _, rfl, rfl, rfl, ?_, bel⟩
    have h := World.ownsRow_lit (w := w) (base := w.heap.size) (e := 65) (size := 4) (madeCells #[Value.string ByteArray.empty, .int .i64 0, .int .i64 0, .slice none 0 0] (n * 4)) n (Nat.le_refl _) (by unfold maxLen; omega) (by simp [madeCells])
    have hm := made_reps [Value.string ByteArray.empty, .int .i64 0, .int .i64 0, .slice none 0 0] n (by simp)
    rw [show (madeCells #[Value.string ByteArray.empty, .int .i64 0, .int .i64 0, .slice none 0 0] (n * 4)).toList = reps [Value.string ByteArray.empty, .int .i64 0, .int .i64 0, .slice none 0 0] n from hm, ← flat_reps] at h
    refine ⟨by simpa using h, fun k hk => (h.lt k hk).2, fun r hr => ?_, ?_⟩
    · have := (List.mem_replicate.1 (by simpa using hr)).2
      subst this
      exact zItem_own _ _ _
    · simp only [List.nil_append]
      rw [List.pairwise_replicate]
      right
      intro k hk
      simp [zItem, RItem.v, Value.ownBlock] at hk
  case round =>
    obtain ⟨j, M, hj, rfl, HM, HT, hown, hb⟩ := hrel
    have hzr := hb.size
    by_cases hlt : j < n
    · obtain ⟨hk1, ad, rfl, hab, hc0, hc1, hc2, hc3, hss, hnm⟩ := (hS.below (hb.mono hB)).at_ (by have := HN.out; omega : j < L.length)
      have hjn : j * 4 + 4 ≤ n * 4 := by omega
      have hrep : List.replicate (n - j) zItem = zItem :: List.replicate (n - (j + 1)) zItem := by rw [show n - j = (n - (j + 1)) + 1 from by omega, List.replicate_succ]
      rw [hrep] at hown
      clear hrep
      go_wp2_with (go_at_call 100; refine (u_toItem _ _ _ B _ _ _ _ _ hss (by omega)).mono ?_; rintro e w1 ⟨A1, c1, rfl, hor, hb1⟩; have ho1 := hown.below hb1; obtain ⟨u0, hu0⟩ := own_cellk ho1.row (j * 4) (by omega); have hf0 := ho1.row.frozenAt (j * 4); obtain ⟨u1, hu1⟩ := own_cellk ho1.row (j * 4 + 1) (by omega); have hf1 := ho1.row.frozenAt (j * 4 + 1); obtain ⟨u2, hu2⟩ := own_cellk ho1.row (j * 4 + 2) (by omega); have hf2 := ho1.row.frozenAt (j * 4 + 2); obtain ⟨u3, hu3⟩ := own_cellk ho1.row (j * 4 + 3) (by omega); have hf3 := ho1.row.frozenAt (j * 4 + 3))
      go_roundw
      case rel =>
        have hst0 := ho1.row.stored (j * 4) (.string L[j].x.nm)
        have hst1 := hst0.1.stored (j * 4 + 1) (.int .i64 L[j].x.d)
        have hst2 := hst1.1.stored (j * 4 + 2) (.int .i64 L[j].x.f)
        have hst3 := hst2.1.stored (j * 4 + 3) (.slice A1 L[j].x.ss.length c1)
        have hgr := only_trans (only_trans (only_trans (hst0.2) hst1.2) hst2.2) hst3.2
        have ho2 := hst3.1
        have hA : (M.flatMap itemCells).length = j * 4 := by rw [flat_len itemCells_len, HM.out]
        rw [List.flatMap_append, List.flatMap_cons, show itemCells zItem = [.string ByteArray.empty, .int .i64 0, .int .i64 0, .slice none 0 0] from rfl, set4 _ _ (j * 4) hA] at ho2
        have hput := ho1.put (r := ⟨L[j].x, A1, c1⟩) (hi' := w1.heap.size) (hor.wide hzr (Nat.le_refl _)) hb1.size ?_ hgr (by rw [List.flatMap_append, List.flatMap_cons]; exact ho2)
        · refine ⟨j + 1, M ++ [⟨L[j].x, A1, c1⟩], by omega, by go_num, by unfold Hid; rw [List.length_append, HM.out]; rfl, ?_, ?_, ?_⟩
          · unfold Hid
            have hx : (plI L)[j]'(by rw [plI_len]; exact hk1) = L[j].x := by simp [plI]
            have hP := HP.out
            rw [show plI (M ++ [⟨L[j].x, A1, c1⟩]) = plI M ++ [L[j].x] by simp [plI], HT.out, ← hx, List.take_succ_eq_append_getElem (by have := HL.out; omega)]
            simp [← hP]
          · rw [List.append_assoc]
            simpa [World.setCell] using hput
          · exact only_below_B (hb.trans (hb1.mono hb.size)) hgr
        · intro s hs k hk hk2
          have q1 : k < wr.heap.size := by
            rcases List.mem_append.1 hs with h | h
            · exact ((hown.in_ s (List.mem_append_left _ h)).row.lt k hk).2
            · exact ((hown.in_ s (List.mem_append_right _ (List.mem_cons_of_mem _ h))).row.lt k hk).2
          have q2 := (hor.row.lt k hk2).1
          omega
      case measure => simp [intOf]; omega
    · have hjn : j = n := by omega
      subst hjn
      rw [Nat.sub_self, List.replicate_zero, List.append_nil] at hown
      have hT : plI M = P := by rw [HT.out]; exact List.take_of_length_le (by have := HL.out; omega)
      have HO := hide (And.intro hT hown)
      clear hown hT
      go_wp2
      go_ret
      have hl := HL.out
      obtain ⟨h1, h2⟩ := unhide HO
      subst hl
      exact ⟨_, _, M, rfl, h1, h2, hb⟩
set_option maxHeartbeats 800000 in
theorem l_eqItem_same (nm : ByteArray) (d f : Int) (B : Nat) (A1 A2 : Option Addr) (n1 n2 c1 c2 : Nat) (ss : List ByteArray) (w : World) (h1 : Strs w B A1 n1 ss) (h2 : Strs w B A2 n2 ss) (hB : B ≤ w.heap.size) :
    Calls Tryz.prog 104 #[.agg #[.string nm, .int .i64 d, .int .i64 f, .slice A1 n1 c1], .agg #[.string nm, .int .i64 d, .int .i64 f, .slice A2 n2 c2]] w fun e w' => e = .returned (.bool true) ∧ Below w.heap.size w w' := by
  have hbq := beq_toList_true (rfl : nm = nm)
  go_enter Tryz.func104, Tryz.ntmps104
  go_wp2_with (go_at_call 102; refine (l_eqCard_args d f B _ _ _ _ _ _ ss _ ((h1.alloc hB _).alloc (by simp; omega) _) ((h2.alloc hB _).alloc (by simp; omega) _) (by simp; omega)).mono ?_; rintro e w1 ⟨rfl, hb1⟩)
  go_ret
  exact ⟨rfl, bel⟩
set_option maxHeartbeats 1600000 in
theorem l_eqItemS_same (B : Nat) (A1 A2 : Option Addr) (n c1 c2 : Nat) (L1 L2 : List RItem) (w : World) (h1 : Items w B A1 n L1) (h2 : Items w B A2 n L2) (hp : plI L1 = plI L2) (hB : B ≤ w.heap.size) :
    Calls Tryz.prog 55 #[.slice A1 n c1, .slice A2 n c2] w fun e w' => e = .returned (.bool true) ∧ Below w.heap.size w w' := by
  have hn := h1.nb
  have HP := Lib.hid hp
  clear hp
  go_enter Tryz.func55, Tryz.ntmps55
  go_wp2
  go_loopw [5] (fun i wr => ∃ j : Nat, j ≤ n ∧ i = .int .i64 j ∧ Below w.heap.size w wr) (fun i _ => n - (intOf i).toNat)
  case atStart => exact ⟨0, Nat.zero_le _, rfl, Below.refl _ _⟩
  case round =>
    obtain ⟨j, hj, rfl, hb⟩ := hrel
    have hzr := hb.size
    by_cases hlt : j < n
    · obtain ⟨hk1, ad1, rfl, hab1, ha0, ha1, ha2, ha3, hs1, _⟩ := (h1.below (hb.mono hB)).at_ hlt
      obtain ⟨hk2, ad2, rfl, hab2, hc0, hc1, hc2, hc3, hs2, _⟩ := (h2.below (hb.mono hB)).at_ hlt
      have hx := plI_get HP.out hk1 hk2
      rw [← hx] at hc0 hc1 hc2 hc3 hs2
      clear hx
      have hq1 : (ad1.add (j * 4)).block < wr.heap.size := by rw [block_of_add]; omega
      have hq2 : (ad2.add (j * 4)).block < wr.heap.size := by rw [block_of_add]; omega
      have hs1' := hs1.more (B' := wr.heap.size) (by omega)
      have hs2' := hs2.more (B' := wr.heap.size) (by omega)
      go_wp2
      go_region_held3 (fun W => (∀ p : Addr, p.block < wr.heap.size → W.cell? p = (wr).cell? p) ∧ (∀ p : Addr, p.block < wr.heap.size → W.frozen? p = (wr).frozen? p) ∧ Below (wr.heap.size) (wr) W) (exact keep_ofP bel) ((go_at_call 104; have hq := (‹_ ∧ _ ∧ Below _ _ _›).2.2; refine (l_eqItem_same _ _ _ wr.heap.size _ _ _ _ _ _ _ _ (hs1'.below hq) (hs2'.below hq) hq.size).mono ?_; rintro e w3 ⟨rfl, hb3⟩))
      have hb3' : Below wr.heap.size wr w3 := (Below.refl _ _).drew.trans hb3
      go_wp2
      go_roundw
      case rel => exact ⟨j + 1, by omega, by go_num, hb.trans (hb3'.mono hzr)⟩
      case measure => simp [intOf]; omega
    · go_wp2
      go_ret
      exact ⟨rfl, hb⟩
theorem OwnItems.rdP {w : World} {lo hi c : Nat} {A : Option Addr} {L : List RItem} {P : List PItem} (ho : OwnItems w lo hi A P.length c L) (hp : plI L = P) (hP : OkItems P 16777216) : Items w w.heap.size A P.length L := by
  subst hp; exact ho.rdOk hP
theorem u_eqItemS (P : List PItem) (A1 A2 : Option Addr) (c1 c2 : Nat) (L1 L2 : List RItem) (lo1 hi1 lo2 hi2 : Nat) (w : World) (h1 : OwnItems w lo1 hi1 A1 P.length c1 L1) (h2 : OwnItems w lo2 hi2 A2 P.length c2 L2) (hp1 : plI L1 = P) (hp2 : plI L2 = P) (hok : OkItems P 16777216) :
    Calls Tryz.prog 55 #[.slice A1 P.length c1, .slice A2 P.length c2] w fun e w' => e = .returned (.bool true) ∧ Below w.heap.size w w' :=
  l_eqItemS_same w.heap.size A1 A2 _ c1 c2 L1 L2 w (h1.rdP hp1 hok) (h2.rdP hp2 hok) (hp1.trans hp2.symm) (Nat.le_refl _)
end Go.Proofs.YtlimlolciekimaaGreatDoor
namespace Go.Proofs.YtlimlolciekimaaGreatDoor
open Go.ChangeShapes Go.WideShapes Go.ChangeAt Go.RowKit
set_option linter.unusedVariables false
set_option maxRecDepth 10000
def cntI : List PItem → Nat
  | [] => 0
  | x :: l => 3 + x.ss.length + cntI l
theorem cntI_append (a b : List PItem) : cntI (a ++ b) = cntI a + cntI b := by
  induction a with
  | nil => simp [cntI]
  | cons x r ih => simp only [List.cons_append, cntI, ih]; omega
theorem cntI_le' (m : Nat) (P : List PItem) (h : ∀ x ∈ P, x.ss.length ≤ m) : cntI P ≤ P.length * (3 + m) := by
  induction P with
  | nil => simp [cntI]
  | cons x l ih =>
    have h1 := h x List.mem_cons_self
    have h2 := ih (fun y hy => h y (List.mem_cons_of_mem _ hy))
    simp only [cntI, List.length_cons, Nat.add_mul, Nat.one_mul]
    omega
theorem cntI_le {P : List PItem} (h : OkItems P 1048576) : cntI P ≤ 1099514773504 := by
  have h1 := cntI_le' 1048576 P (fun x hx => (h.2 x hx).1)
  have h2 := h.1
  have h3 : P.length * (3 + 1048576) ≤ 1048576 * (3 + 1048576) := Nat.mul_le_mul_right _ h2
  omega
theorem cntI_le2 {P : List PItem} (h : OkItems P 16777216) : cntI P ≤ 281475027042304 := by
  have h1 := cntI_le' 16777216 P (fun x hx => (h.2 x hx).1)
  have h2 := h.1
  have h3 : P.length * (3 + 16777216) ≤ 16777216 * (3 + 16777216) := Nat.mul_le_mul_right _ h2
  omega
def mkSS (k : Int) (n : Nat) : List ByteArray := (List.range n).map fun i => markT (k + (i : Nat))
theorem mkSS_len (k : Int) (n : Nat) : (mkSS k n).length = n := by simp [mkSS]
theorem mkSS_marks (k : Int) (n : Nat) : (mkSS k n).map Value.string = marks k n := by simp [mkSS, marks]
def mkItem (k : Int) (r : RItem) : RItem := ⟨⟨markT k, k + 1, k + 1 + 1, mkSS (k + 1 + 1 + 1) r.x.ss.length⟩, r.A, r.c⟩
def mksI : Int → List RItem → List RItem
  | _, [] => []
  | k, r :: l => mkItem k r :: mksI (k + 3 + r.x.ss.length) l
theorem mksI_len (k : Int) (l : List RItem) : (mksI k l).length = l.length := by
  induction l generalizing k with
  | nil => rfl
  | cons r l ih => simp only [mksI, List.length_cons, ih]
theorem mksI_append (k : Int) (l : List RItem) (r : RItem) : mksI k (l ++ [r]) = mksI k l ++ [mkItem (k + cntI (plI l)) r] := by
  induction l generalizing k with
  | nil => simp [mksI, plI, cntI]
  | cons s l ih =>
    simp only [List.cons_append, mksI, ih]
    congr 3
    simp only [plI, List.map_cons, cntI]
    congr 1
    push_cast
    omega
theorem plI_append (a b : List RItem) : plI (a ++ b) = plI a ++ plI b := by simp [plI]
theorem cntI_take {L : List RItem} {j : Nat} (hj : j < L.length) : cntI (plI (L.take (j + 1))) = cntI (plI (L.take j)) + (3 + L[j].x.ss.length) := by
  rw [List.take_succ_eq_append_getElem hj, plI_append, cntI_append]; simp [plI, cntI]
theorem cntI_take_le (L : List RItem) (j : Nat) : cntI (plI (L.take j)) ≤ cntI (plI L) := by
  have : plI L = plI (L.take j) ++ plI (L.drop j) := by rw [← plI_append, List.take_append_drop]
  rw [this, cntI_append]; omega
theorem set3of4 (A C : List Value) (p : Nat) (hp : A.length = p) (z0 z1 z2 z3 c0 c1 c2 : Value) : ((((A ++ ([z0, z1, z2, z3] ++ C)).set (p) c0).set (p + 1) c1).set (p + 2) c2) = A ++ ([c0, c1, c2, z3] ++ C) := by
  subst hp
  induction A with
  | nil => rfl
  | cons a A ih =>
    simp only [List.cons_append, List.length_cons, Nat.add_right_comm _ 1, List.set_cons_succ]
    exact congrArg (a :: ·) (by simp)
set_option maxHeartbeats 3200000 in
theorem u_markItemS (P : List PItem) (A : Option Addr) (c : Nat) (L : List RItem) (lo hi : Nat) (k : Int) (w : World) (hO : OwnItems w lo hi A P.length c L) (hp : plI L = P) (hk0 : 0 ≤ k) (hk1 : k ≤ 2251799813685248) (hok : OkItems P 16777216) :
    Calls Tryz.prog 58 #[.slice A P.length c, .int .i64 k] w fun e w' => e = .returned (.int .i64 (k + (cntI P : Int))) ∧ OwnItems w' lo hi A P.length c (mksI k L) ∧ Within lo hi w w' := by
  have hcn := cntI_le2 hok
  have hn : P.length ≤ 16777216 := hok.1
  have hin : ∀ r ∈ L, r.x.ss.length ≤ 16777216 := fun r hr => (hok.2 r.x (by rw [← hp]; exact List.mem_map.2 ⟨r, hr, rfl⟩)).1
  have hl : L.length = P.length := by rw [← hp, plI_len]
  have HIN := hide hin
  have HP := Lib.hid hp
  obtain ⟨n, hnn⟩ : ∃ n, n = P.length := ⟨_, rfl⟩
  rw [← hnn] at hl hO hn ⊢
  have HL := Lib.hid hl
  have hcl := fun j => cntI_take_le L j
  rw [hp] at hcl
  have HCL := hide hcl
  clear hin hp hl hnn hok hcl
  go_enter Tryz.func58, Tryz.ntmps58
  go_wp2
  go_loopw [1, 5] (fun q i wr => ∃ (j : Nat) (x : Int), j ≤ n ∧ i = .int .i64 j ∧ q = .int .i64 x ∧ Hid (x = k + cntI (plI (L.take j))) ∧ OwnItems wr lo hi A n c (mksI k (L.take j) ++ L.drop j) ∧ Within lo hi w wr) (fun _ i _ => n - (intOf i).toNat)
  case atStart => exact ⟨0, k, Nat.zero_le _, rfl, rfl, by unfold Hid; simp [plI, cntI], by simpa [mksI] using hO, Within.refl _ _ _⟩
  case round =>
    obtain ⟨j, x, hj, rfl, rfl, HXK, hown, hW⟩ := hrel
    have hbx : k ≤ x ∧ x ≤ k + cntI P := by have h1 := HXK.out; have h2 := unhide HCL j; omega
    by_cases hlt : j < n
    · have hk1' : j < L.length := by have := HL.out; omega
      obtain ⟨g, cap, hv, hbg, hglt⟩ := hown.row.form (by omega)
      have hA : A = some ⟨g, 0, none⟩ := by injection hv
      subst hA
      clear hv
      have hsn := unhide HIN _ (List.getElem_mem hk1')
      have hdr : L.drop j = L[j] :: L.drop (j + 1) := List.drop_eq_getElem_cons hk1'
      rw [hdr] at hown
      have HTK := Lib.hid (List.take_succ_eq_append_getElem hk1')
      have HCT := Lib.hid (cntI_take hk1')
      generalize L[j] = r at *
      clear hdr
      have hM : (mksI k (L.take j)).length = j := by rw [mksI_len, List.length_take]; omega
      have HM := Lib.hid hM
      clear hM
      generalize hM1 : mksI k (L.take j) = M1 at *
      have HM1 := Lib.hid hM1
      clear hM1
      generalize hM2 : L.drop (j + 1) = M2 at *
      have HM2 := Lib.hid hM2
      clear hM2
      have hfl : (M1 ++ r :: M2).flatMap itemCells = M1.flatMap itemCells ++ (itemCells r ++ M2.flatMap itemCells) := by rw [List.flatMap_append, List.flatMap_cons]
      have hal : (M1.flatMap itemCells).length = j * 4 := by rw [flat_len itemCells_len, HM.out]
      have HFL := Lib.hid hfl
      have HAL := Lib.hid hal
      clear hfl hal
      have hjn : j * 4 + 4 ≤ n * 4 := by omega
      have hcell3 : wr.cell? ⟨g, j * 4 + 3, none⟩ = some (.slice r.A r.x.ss.length r.c) := by
        rw [hown.row.cellAt (j * 4 + 3) (by omega), HFL.out, List.getElem?_append_right (by have := HAL.out; omega), HAL.out, List.getElem?_append_left (by simp [itemCells])]
        simp [itemCells]
      go_wp2_with fail
      refine (l_markText x _ (by omega) (by omega)).mono ?_
      rintro e w1 ⟨rfl, hb1⟩
      have ho1 := hown.below hb1
      obtain ⟨u0, hu0⟩ := own_cellk ho1.row (j * 4) (by omega)
      have hf0 := ho1.row.frozenAt (j * 4)
      obtain ⟨u1, hu1⟩ := own_cellk ho1.row (j * 4 + 1) (by omega)
      have hf1 := ho1.row.frozenAt (j * 4 + 1)
      obtain ⟨u2, hu2⟩ := own_cellk ho1.row (j * 4 + 2) (by omega)
      have hf2 := ho1.row.frozenAt (j * 4 + 2)
      have hu3 : w1.cell? ⟨g, j * 4 + 3, none⟩ = some (.slice r.A r.x.ss.length r.c) := by rw [hb1.cell (p := ⟨g, j * 4 + 3, none⟩) hglt]; exact hcell3
      clear hcell3
      go_wp2_with fail
      have hst0 := ho1.row.stored (j * 4) (.string (markT x))
      have hst1 := hst0.1.stored (j * 4 + 1) (.int .i64 (x + 1))
      have hst2 := hst1.1.stored (j * 4 + 2) (.int .i64 (x + 1 + 1))
      have hgr := only_trans (only_trans (hst0.2) hst1.2) hst2.2
      have ho2 := hst2.1
      rw [HFL.out, show itemCells r = [.string r.x.nm, .int .i64 r.x.d, .int .i64 r.x.f, .slice r.A r.x.ss.length r.c] from rfl, set3of4 _ _ (j * 4) HAL.out] at ho2
      have hap := ho1.apart
      rw [List.pairwise_append, List.pairwise_cons] at hap
      have hput := ho1.put (r := ⟨⟨markT x, x + 1, x + 1 + 1, r.x.ss⟩, r.A, r.c⟩) (hi' := hi) (ho1.in_ r (List.mem_append_right _ List.mem_cons_self)) (Nat.le_refl _) (fun s hs k2 hk2 hk3 => by
        rcases List.mem_append.1 hs with h | h
        · exact hap.2.2 s h r List.mem_cons_self k2 hk2 hk3
        · exact hap.2.1.1 s h k2 hk3 hk2) hgr (by rw [List.flatMap_append, List.flatMap_cons]; exact ho2)
      have hWp := (hW.trans (Within.of_below hb1)).trans (Within.of_grown ho1.row (by decide) hgr (Nat.le_refl _) ho1.top)
      clear hst0 hst1 hst2 hgr ho2 hap
      have HIR := hput.in_ _ (List.mem_append_right _ List.mem_cons_self)
      refine (l_markStringS lo r.A _ r.c _ (x + 1 + 1 + 1) _ HIR.row (by omega) (by omega) hsn).mono ?_
      rintro e w2 ⟨rfl, ho3, hg3⟩
      have hin3 := hput.inner (ss := mkSS (x + 1 + 1 + 1) r.x.ss.length) (by rw [mkSS_len]) (by rw [mkSS_marks, mkSS_len]; exact ho3) hg3
      have hW2 := hWp.trans (Within.of_grown HIR.row (by decide) hg3 (Nat.le_refl _) HIR.top)
      clear hput hWp HIR ho3 hg3 hu0 hu1 hu2 hu3 hf0 hf1 hf2 ho1 hown hW hb1
      have HIN3 := hide hin3
      have HW2 := hide hW2
      clear hin3 hW2
      go_wp2
      go_roundw
      case rel =>
        refine ⟨j + 1, x + 1 + 1 + 1 + r.x.ss.length, by omega, by go_num, by go_num, ?_, ?_, unhide HW2⟩
        · unfold Hid
          rw [HCT.out, HXK.out]
          push_cast
          omega
        · have h := unhide HIN3
          rw [HTK.out, mksI_append, HM1.out, ← HXK.out, List.append_assoc, HM2.out]
          exact h
      case measure => simp [intOf]; omega
    · have hjn : j = n := by omega
      subst hjn
      have hd : L.drop j = [] := List.drop_eq_nil_of_le (by have := HL.out; omega)
      have ht : L.take j = L := List.take_of_length_le (by have := HL.out; omega)
      rw [hd, ht, List.append_nil] at hown
      have hx : x = k + cntI P := by have h := HXK.out; rw [ht, HP.out] at h; exact h
      have HX := Lib.hid hx
      have HO := hide hown
      clear hd ht hown hx HXK HCL hbx
      go_wp2
      go_ret
      exact ⟨ret_int HX.out, unhide HO, hW⟩
theorem cells_litem : Tryz.prog.cellsOf 130 = 4 := by kernel_rfl
theorem cells_lcardI : Tryz.prog.cellsOf 44 = 3 := by kernel_rfl
theorem cells_slI : Tryz.prog.cellsOf 24 = 1 := by kernel_rfl
theorem trod_cardI {H : Type} {enc : TypeId × Value → H} {W : World} {n : Nat} {c0 c1 c2 : Value} {x : DataW H × List MemPlace} (h : DataW.trod enc Tryz.prog W 0 (fun _ => true) true n 44 [c0, c1, c2] = some x) :
    ∃ (d f : Int) (A : Option Addr) (c : Nat) (ss : List ByteArray), c0 = .int .i64 d ∧ c1 = .int .i64 f ∧ c2 = .slice A ss.length c ∧ Reads W W.heap.size 1 A ss.length (ss.map Value.string) ∧ ss.length ≤ maxLen ∧ ∀ s ∈ ss, s.size ≤ maxLen := by
  obtain ⟨m0, y0, h0⟩ := trod_field Tryz.underlying44 h 0 _ rfl (by kernel_rfl : Tryz.prog.cellsOf 3 = 1)
  obtain ⟨m1, y1, h1⟩ := trod_field Tryz.underlying44 h 1 _ rfl (by kernel_rfl : Tryz.prog.cellsOf 3 = 1)
  obtain ⟨m2, y2, h2⟩ := trod_field Tryz.underlying44 h 2 _ rfl cells_slI
  obtain ⟨d, e0, _, _⟩ := DataW.trod_int Tryz.underlying3 h0
  obtain ⟨f, e1, _, _⟩ := DataW.trod_int Tryz.underlying3 h1
  obtain ⟨A, n, c, ss, e2, hR, hm, hs⟩ := reads_strings h2
  simp at e0 e1 e2
  have hl : ss.length = n := by have := hR.1; simpa using this
  subst hl
  exact ⟨d, f, A, c, ss, e0, e1, e2, hR, hm, hs⟩
theorem trod_item {H : Type} {enc : TypeId × Value → H} {W : World} {n : Nat} {c0 c1 c2 c3 : Value} {x : DataW H × List MemPlace} (h : DataW.trod enc Tryz.prog W 0 (fun _ => true) true n 130 [c0, c1, c2, c3] = some x) :
    ∃ (nm : ByteArray) (d f : Int) (A : Option Addr) (c : Nat) (ss : List ByteArray), c0 = .string nm ∧ c1 = .int .i64 d ∧ c2 = .int .i64 f ∧ c3 = .slice A ss.length c ∧ Reads W W.heap.size 1 A ss.length (ss.map Value.string) ∧ ss.length ≤ maxLen ∧ (∀ s ∈ ss, s.size ≤ maxLen) ∧ nm.size ≤ maxLen := by
  obtain ⟨m0, y0, h0⟩ := trod_field Tryz.underlying130 h 0 _ rfl cells_str
  obtain ⟨m1, y1, h1⟩ := trod_field Tryz.underlying130 h 1 _ rfl cells_lcardI
  obtain ⟨nm, e0, _, hnm⟩ := DataW.trod_string Tryz.underlying9 h0
  obtain ⟨d, f, A, c, ss, e1, e2, e3, hR, hm, hs⟩ := trod_cardI h1
  simp at e0
  exact ⟨nm, d, f, A, c, ss, e0, e1, e2, e3, hR, hm, hs, hnm⟩
end Go.Proofs.YtlimlolciekimaaGreatDoor
namespace Go.Proofs.YtlimlolciekimaaGreatDoor
open Go.ChangeShapes Go.WideShapes Go.ChangeAt Go.RowKit
set_option linter.unusedVariables false
set_option maxRecDepth 10000
def nmB (b : UInt8) : Bool := decide (97 ≤ b.toNat) && decide (b.toNat ≤ 122)
def nameOk (s : ByteArray) : Bool := s.data.toList.all nmB && inB s.size 1 12
theorem nameOk_no {s : ByteArray} {k : Nat} (hk : k < s.size) (h : nmB s[k] = false) : nameOk s = false := by
  have : s.data.toList.all nmB = false := by
    rw [List.all_eq_false]
    refine ⟨s[k], ?_, by simp [h]⟩
    have : s[k] = s.data.toList[k]'(by simpa using hk) := rfl
    rw [this]; exact List.getElem_mem _
  unfold nameOk; rw [this]; rfl
set_option maxHeartbeats 800000 in
theorem i_NameOk (s : ByteArray) (w : World) (hs : s.size ≤ 16777216) :
    Calls Tryz.prog 136 #[.string s] w fun e w' => e = .returned (.bool (nameOk s)) ∧ w = w' := by
  go_enter Tryz.func136, Tryz.ntmps136
  go_wp2
  go_loop [3, 6] (fun x i => ∃ k : Nat, k ≤ s.size ∧ i = .int .i64 k ∧ (s.data.toList.take k).all nmB = true) (fun _ i => s.size - (intOf i).toNat)
  case atStart => exact ⟨0, Nat.zero_le _, rfl, by simp⟩
  case round =>
    obtain ⟨k, hk, rfl, hall⟩ := hrel
    by_cases hlt : k < s.size
    · have HT := Lib.hid (take_snoc s k hlt)
      by_cases h1 : s[k].toNat < 97
      · have HF := Lib.hid (nameOk_no hlt (by unfold nmB; rw [decide_eq_false (by omega)]; rfl))
        go_wp2
        go_ret
        exact ⟨ret_bool HF.out.symm, rfl⟩
      · by_cases h2 : 122 < s[k].toNat
        · have HF := Lib.hid (nameOk_no hlt (by unfold nmB; rw [decide_eq_true (by omega), decide_eq_false (by omega)]; rfl))
          go_wp2
          go_ret
          exact ⟨ret_bool HF.out.symm, rfl⟩
        · go_wp2
          go_round
          case rel => exact ⟨k + 1, by omega, by go_num, by rw [HT.out, List.all_append, hall]; simp [nmB]; omega⟩
          case measure => simp [intOf]; omega
    · have hke : k = s.size := by omega
      have HF : Hid (nameOk s = inB s.size 1 12) := by
        unfold Hid nameOk
        rw [List.take_of_length_le (by simp; omega)] at hall
        rw [hall]; rfl
      clear hall hke
      go_wp2_with (go_at_call 71; refine (i_within _ _ _ _).mono ?_; rintro e w' ⟨rfl, rfl⟩)
      go_ret
      exact ⟨ret_bool HF.out.symm, rfl⟩
set_option maxHeartbeats 800000 in
theorem s_NameOk (s : ByteArray) (w : World) (hs : s.size ≤ 16777216) :
    Calls Tryz.prog 148 #[.string s] w fun e w' => e = .returned (.bool (nameOk s)) ∧ w = w' := by
  go_enter Tryz.func148, Tryz.ntmps148
  go_wp2
  go_loop [3] (fun i => ∃ k : Nat, k ≤ s.size ∧ i = .int .i64 k ∧ (s.data.toList.take k).all nmB = true) (fun i => s.size - (intOf i).toNat)
  case atStart => exact ⟨0, Nat.zero_le _, rfl, by simp⟩
  case round =>
    obtain ⟨k, hk, rfl, hall⟩ := hrel
    by_cases hlt : k < s.size
    · have HT := Lib.hid (take_snoc s k hlt)
      by_cases h1 : s[k].toNat < 97
      · have HF := Lib.hid (nameOk_no hlt (by unfold nmB; rw [decide_eq_false (by omega)]; rfl))
        go_wp2
        go_ret
        exact ⟨ret_bool HF.out.symm, rfl⟩
      · by_cases h2 : 122 < s[k].toNat
        · have HF := Lib.hid (nameOk_no hlt (by unfold nmB; rw [decide_eq_true (by omega), decide_eq_false (by omega)]; rfl))
          go_wp2
          go_ret
          exact ⟨ret_bool HF.out.symm, rfl⟩
        · go_wp2
          go_round
          case rel => exact ⟨k + 1, by omega, by go_num, by rw [HT.out, List.all_append, hall]; simp [nmB]; omega⟩
          case measure => simp [intOf]; omega
    · have hke : k = s.size := by omega
      have HF : Hid (nameOk s = inB s.size 1 12) := by
        unfold Hid nameOk
        rw [List.take_of_length_le (by simp; omega)] at hall
        rw [hall]; rfl
      clear hall hke
      go_wp2_with (go_at_call 95; refine (s_l01In _ _ _ _).mono ?_; rintro e w' ⟨rfl, rfl⟩)
      go_ret
      exact ⟨ret_bool HF.out.symm, rfl⟩
def nmLe (a b : ByteArray) : Bool := Op.bytesLess a.toList b.toList || a.toList == b.toList
def itGood (P : List PItem) (i : Nat) : Bool :=
  match P[i]? with
  | none => true
  | some x => (nameOk x.nm && cardOk x.d x.f x.ss) && (decide (i = 0) || match P[i - 1]? with | none => true | some y => !nmLe x.nm y.nm)
def catOk (P : List PItem) : Bool := (List.range P.length).all (itGood P) && decide (P.length ≤ 20)
theorem catOk_no {P : List PItem} {k : Nat} (hk : k < P.length) (h : itGood P k = false) : catOk P = false := by
  have : (List.range P.length).all (itGood P) = false := by
    rw [List.all_eq_false]; exact ⟨k, by simpa using hk, by simp [h]⟩
  unfold catOk; rw [this]; rfl
theorem itGood_0 {P : List PItem} {x : PItem} (h : P[0]? = some x) : itGood P 0 = (nameOk x.nm && cardOk x.d x.f x.ss) := by unfold itGood; rw [h]; simp
theorem itGood_s {P : List PItem} {k : Nat} {x y : PItem} (h : P[k + 1]? = some x) (h2 : P[k]? = some y) : itGood P (k + 1) = ((nameOk x.nm && cardOk x.d x.f x.ss) && !nmLe x.nm y.nm) := by
  unfold itGood; rw [h]; simp [h2]
theorem all_range_succ {f : Nat → Bool} {k : Nat} (h : (List.range k).all f = true) (h2 : f k = true) : (List.range (k + 1)).all f = true := by
  rw [List.range_succ, List.all_append, h]; simp [h2]
theorem plI_at {L : List RItem} {k : Nat} (hk : k < L.length) : (plI L)[k]? = some L[k].x := by simp [plI, hk]
end Go.Proofs.YtlimlolciekimaaGreatDoor
