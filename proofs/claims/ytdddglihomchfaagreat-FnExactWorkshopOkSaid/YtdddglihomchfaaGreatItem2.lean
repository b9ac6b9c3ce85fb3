/- The law package's helpers over items: sizes, copies, equality. -/
import Derived.Test.YtdddglihomchfaaGreatItem1
import Derived.Test.YtdddglihomchfaaGreatUCard
namespace Go.Proofs.YtdddglihomchfaaGreat
open Go.ChangeShapes Go.WideShapes Go.ChangeAt Go.RowKit
set_option linter.unusedVariables false
set_option maxRecDepth 10000

def szItem (nm : ByteArray) (ss : List ByteArray) (left : Int) : Int := if left - nm.size < 0 then -1 else szStrs ss (left - nm.size)
theorem szItem_ub (nm : ByteArray) (ss : List ByteArray) (l : Int) (h : l ≤ 1048576) : szItem nm ss l ≤ 1048576 := by
  unfold szItem; split
  · omega
  · exact sz_ub _ _ (by omega)
theorem szItem_ge (nm : ByteArray) (ss : List ByteArray) (l : Int) : -1 ≤ szItem nm ss l := by
  unfold szItem szStrs; split
  · omega
  · split <;> omega
theorem item_of_szl {W : World} {A : Option Addr} {n : Nat} {nm : ByteArray} {ss : List ByteArray} {l : Int} (hR : Reads W W.heap.size 1 A n (ss.map Value.string)) (hl1 : l ≤ 1048576) (hz : 0 ≤ szItem nm ss l) : Strs W W.heap.size A n ss ∧ n ≤ 1048576 ∧ nm.size ≤ 1048576 := by
  unfold szItem at hz
  split at hz
  · omega
  · obtain ⟨h1, h2⟩ := strs_of_szl hR (by omega) hz
    exact ⟨h1, h2, by omega⟩
def szIts : List PItem → Int → Int
  | [], left => left
  | x :: l, left => if szItem x.nm x.ss left < 0 then -1 else szIts l (szItem x.nm x.ss left)
def szItems (l : List PItem) (left : Int) : Int := if left - l.length < 0 then -1 else szIts l (left - l.length)
theorem szIts_drop {l : List PItem} {j : Nat} (h : j < l.length) (q : Int) : szIts (l.drop j) q = if szItem l[j].nm l[j].ss q < 0 then -1 else szIts (l.drop (j + 1)) (szItem l[j].nm l[j].ss q) := by
  rw [List.drop_eq_getElem_cons h]; rfl
theorem szIts_ub (l : List PItem) : ∀ (q : Int), q ≤ 1048576 → szIts l q ≤ 1048576 := by
  induction l with
  | nil => intro q h; exact h
  | cons s l ih => intro q h; simp only [szIts]; split <;> (first | omega | exact ih _ (szItem_ub _ _ _ h))
theorem szItems_ub (l : List PItem) (q : Int) (h : q ≤ 1048576) : szItems l q ≤ 1048576 := by
  unfold szItems; split <;> (first | omega | exact szIts_ub l _ (by omega))
theorem szItems_ge (l : List PItem) (q : Int) (h : -1 ≤ q) : -1 ≤ szItems l q := by
  have key : ∀ (l : List PItem) (q : Int), -1 ≤ q → -1 ≤ szIts l q := by
    intro l
    induction l with
    | nil => intro q h; exact h
    | cons s l ih => intro q h; simp only [szIts]; split <;> (first | omega | exact ih _ (by omega))
  unfold szItems; split <;> (first | omega | exact key _ _ (by omega))
theorem szIts_mem (l : List PItem) : ∀ (q : Int), q ≤ 1048576 → 0 ≤ szIts l q → ∀ x ∈ l, x.ss.length ≤ 1048576 ∧ (∀ s ∈ x.ss, s.size ≤ 16777216) ∧ x.nm.size ≤ 16777216 := by
  induction l with
  | nil => intro q _ _ x hx; cases hx
  | cons s l ih =>
    intro q hq h x hx
    simp only [szIts] at h
    split at h
    · omega
    · rename_i h2
      rcases List.mem_cons.1 hx with rfl | hx
      · unfold szItem at h2
        split at h2
        · omega
        · rename_i h3
          unfold szStrs at h2
          split at h2
          · omega
          · exact ⟨by omega, fun s hs => by have := tot_mem hs; omega, by omega⟩
      · exact ih _ (szItem_ub _ _ _ hq) h x hx
/-- how items read, whatever their lengths -/
structure RawItems (w : World) (B : Nat) (A : Option Addr) (L : List RItem) : Prop where
  rd : Reads w B 4 A L.length (L.flatMap itemCells)
  nb : L.length ≤ 9223372036854775807
  in_ : ∀ r ∈ L, Reads w B 1 r.A r.x.ss.length (r.x.ss.map Value.string) ∧ r.x.ss.length ≤ 9223372036854775807 ∧ (∀ s ∈ r.x.ss, s.size ≤ 9223372036854775807) ∧ r.x.nm.size ≤ 9223372036854775807
theorem RawItems.below {w w' : World} {B : Nat} {A : Option Addr} {L : List RItem} (h : RawItems w B A L) (hb : Below B w w') : RawItems w' B A L := ⟨h.rd.below hb, h.nb, fun r hr => ⟨(h.in_ r hr).1.below hb, (h.in_ r hr).2⟩⟩
theorem Items.raw {w : World} {B : Nat} {A : Option Addr} {L : List RItem} (h : Items w B A L.length L) : RawItems w B A L :=
  ⟨h.rd, by have := h.nb; omega, fun r hr => by
    have h1 := h.in_ r hr
    have h2 := h1.1.nb
    exact ⟨h1.1.rd, by omega, fun s hs => by have := h1.1.sb s hs; omega, by omega⟩⟩
theorem items_of_sz {W : World} {A : Option Addr} {L : List RItem} {l : Int} (hR : RawItems W W.heap.size A L) (hl : l ≤ 1048576) (hz : 0 ≤ szItems (plI L) l) : Items W W.heap.size A L.length L ∧ OkItems (plI L) 1048576 := by
  unfold szItems at hz
  split at hz
  · omega
  · have hm := szIts_mem _ _ (by omega) hz
    have hlen := plI_len L
    refine ⟨⟨hR.rd, by omega, fun r hr => ?_⟩, by omega, hm⟩
    obtain ⟨h1, h2, h3⟩ := hm r.x (List.mem_map.2 ⟨r, hr, rfl⟩)
    exact ⟨⟨(hR.in_ r hr).1, by omega, h2⟩, h3⟩
set_option maxHeartbeats 800000 in
theorem l_szItem (nm : ByteArray) (d f : Int) (B : Nat) (A : Option Addr) (n c : Nat) (ss : List ByteArray) (left : Int) (w : World) (hB : B ≤ w.heap.size) (hR : Reads w B 1 A n (ss.map Value.string)) (hn : n ≤ 9223372036854775807) (hs : ∀ s ∈ ss, s.size ≤ 9223372036854775807) (hnm : nm.size ≤ 9223372036854775807) (h0 : -1 ≤ left) (h1 : left ≤ 1048576) :
    Calls Tryz.prog 117 #[.agg #[.string nm, .int .i64 d, .int .i64 f, .slice A n c], .int .i64 left] w fun e w' => e = .returned (.int .i64 (szItem nm ss left)) ∧ Below w.heap.size w w' := by
  by_cases h2 : left - nm.size < 0
  · have HF : Hid (szItem nm ss left = -1) := by unfold Hid szItem; rw [if_pos h2]
    go_enter Tryz.func117, Tryz.ntmps117
    go_wp2
    go_ret
    exact ⟨ret_int HF.out.symm, (by repeat (first | (with_reducible exact Below.refl _ _) | (with_reducible assumption) | (with_reducible exact (‹_ ∧ _ ∧ Below _ _ _›).2.2) | (with_reducible refine below_drewN ?_ _) | (with_reducible refine Below.drew ?_) | ((with_reducible refine Below.alloc ?_ ?hsd _); (case hsd => (first | exact Nat.le_refl _ | (simp; done) | omega | (simp; omega) | exact (‹_ ∧ _ ∧ Below _ _ _›).2.2.size))) | ((with_reducible refine Below.setCell ?_ ?hsd _); (case hsd => (first | exact Nat.le_refl _ | (simp; done) | omega | (simp; omega) | exact (‹_ ∧ _ ∧ Below _ _ _›).2.2.size))) | ((with_reducible refine Below.trans ?_ (Below.mono (by with_reducible assumption) ?hsd)); (case hsd => (first | exact Nat.le_refl _ | (simp; done) | omega | (simp; omega) | exact (‹_ ∧ _ ∧ Below _ _ _›).2.2.size))) | exact Below.refl _ _ | assumption | exact (‹_ ∧ _ ∧ Below _ _ _›).2.2 | refine below_drewN ?_ _ | refine Below.drew ?_ | refine Below.alloc ?_ (by first | exact Nat.le_refl _ | (simp; done) | omega | (simp; omega) | exact (‹_ ∧ _ ∧ Below _ _ _›).2.2.size) _ | refine Below.setCell ?_ (by first | exact Nat.le_refl _ | (simp; done) | omega | (simp; omega) | exact (‹_ ∧ _ ∧ Below _ _ _›).2.2.size) _ | refine Below.trans ?_ (Below.mono (by assumption) (by first | exact Nat.le_refl _ | (simp; done) | omega | (simp; omega) | exact (‹_ ∧ _ ∧ Below _ _ _›).2.2.size))))⟩
  · have HF : Hid (szItem nm ss left = szStrs ss (left - nm.size)) := by unfold Hid szItem; rw [if_neg h2]
    have hr : -1 ≤ szStrs ss (left - nm.size) := by unfold szStrs; split <;> omega
    have hc := fun (W : World) (hW : Below w.heap.size w W) => l_szCard d f B A n c ss (left - nm.size) W (Nat.le_trans hB hW.size) (hR.below (hW.mono hB)) hn hs (by omega) (by omega)
    have HC := hide hc
    clear hc
    generalize szStrs ss (left - nm.size) = q at *
    by_cases h3 : q < 0
    · have hq : q = -1 := by omega
      have HQ := Lib.hid hq
      clear hq
      go_enter Tryz.func117, Tryz.ntmps117
      go_wp2_with fail
      refine (unhide HC _ (by exact (by repeat (first | (with_reducible exact Below.refl _ _) | (with_reducible assumption) | (with_reducible exact (‹_ ∧ _ ∧ Below _ _ _›).2.2) | (with_reducible refine below_drewN ?_ _) | (with_reducible refine Below.drew ?_) | ((with_reducible refine Below.alloc ?_ ?hsd _); (case hsd => (first | exact Nat.le_refl _ | (simp; done) | omega | (simp; omega) | exact (‹_ ∧ _ ∧ Below _ _ _›).2.2.size))) | ((with_reducible refine Below.setCell ?_ ?hsd _); (case hsd => (first | exact Nat.le_refl _ | (simp; done) | omega | (simp; omega) | exact (‹_ ∧ _ ∧ Below _ _ _›).2.2.size))) | ((with_reducible refine Below.trans ?_ (Below.mono (by with_reducible assumption) ?hsd)); (case hsd => (first | exact Nat.le_refl _ | (simp; done) | omega | (simp; omega) | exact (‹_ ∧ _ ∧ Below _ _ _›).2.2.size))) | exact Below.refl _ _ | assumption | exact (‹_ ∧ _ ∧ Below _ _ _›).2.2 | refine below_drewN ?_ _ | refine Below.drew ?_ | refine Below.alloc ?_ (by first | exact Nat.le_refl _ | (simp; done) | omega | (simp; omega) | exact (‹_ ∧ _ ∧ Below _ _ _›).2.2.size) _ | refine Below.setCell ?_ (by first | exact Nat.le_refl _ | (simp; done) | omega | (simp; omega) | exact (‹_ ∧ _ ∧ Below _ _ _›).2.2.size) _ | refine Below.trans ?_ (Below.mono (by assumption) (by first | exact Nat.le_refl _ | (simp; done) | omega | (simp; omega) | exact (‹_ ∧ _ ∧ Below _ _ _›).2.2.size)))))).mono ?_
      rintro e w1 ⟨rfl, hb1⟩
      go_wp2
      go_ret
      exact ⟨ret_int (by rw [HF.out, HQ.out]), (by repeat (first | (with_reducible exact Below.refl _ _) | (with_reducible assumption) | (with_reducible exact (‹_ ∧ _ ∧ Below _ _ _›).2.2) | (with_reducible refine below_drewN ?_ _) | (with_reducible refine Below.drew ?_) | ((with_reducible refine Below.alloc ?_ ?hsd _); (case hsd => (first | exact Nat.le_refl _ | (simp; done) | omega | (simp; omega) | exact (‹_ ∧ _ ∧ Below _ _ _›).2.2.size))) | ((with_reducible refine Below.setCell ?_ ?hsd _); (case hsd => (first | exact Nat.le_refl _ | (simp; done) | omega | (simp; omega) | exact (‹_ ∧ _ ∧ Below _ _ _›).2.2.size))) | ((with_reducible refine Below.trans ?_ (Below.mono (by with_reducible assumption) ?hsd)); (case hsd => (first | exact Nat.le_refl _ | (simp; done) | omega | (simp; omega) | exact (‹_ ∧ _ ∧ Below _ _ _›).2.2.size))) | exact Below.refl _ _ | assumption | exact (‹_ ∧ _ ∧ Below _ _ _›).2.2 | refine below_drewN ?_ _ | refine Below.drew ?_ | refine Below.alloc ?_ (by first | exact Nat.le_refl _ | (simp; done) | omega | (simp; omega) | exact (‹_ ∧ _ ∧ Below _ _ _›).2.2.size) _ | refine Below.setCell ?_ (by first | exact Nat.le_refl _ | (simp; done) | omega | (simp; omega) | exact (‹_ ∧ _ ∧ Below _ _ _›).2.2.size) _ | refine Below.trans ?_ (Below.mono (by assumption) (by first | exact Nat.le_refl _ | (simp; done) | omega | (simp; omega) | exact (‹_ ∧ _ ∧ Below _ _ _›).2.2.size))))⟩
    · go_enter Tryz.func117, Tryz.ntmps117
      go_wp2_with fail
      refine (unhide HC _ (by exact (by repeat (first | (with_reducible exact Below.refl _ _) | (with_reducible assumption) | (with_reducible exact (‹_ ∧ _ ∧ Below _ _ _›).2.2) | (with_reducible refine below_drewN ?_ _) | (with_reducible refine Below.drew ?_) | ((with_reducible refine Below.alloc ?_ ?hsd _); (case hsd => (first | exact Nat.le_refl _ | (simp; done) | omega | (simp; omega) | exact (‹_ ∧ _ ∧ Below _ _ _›).2.2.size))) | ((with_reducible refine Below.setCell ?_ ?hsd _); (case hsd => (first | exact Nat.le_refl _ | (simp; done) | omega | (simp; omega) | exact (‹_ ∧ _ ∧ Below _ _ _›).2.2.size))) | ((with_reducible refine Below.trans ?_ (Below.mono (by with_reducible assumption) ?hsd)); (case hsd => (first | exact Nat.le_refl _ | (simp; done) | omega | (simp; omega) | exact (‹_ ∧ _ ∧ Below _ _ _›).2.2.size))) | exact Below.refl _ _ | assumption | exact (‹_ ∧ _ ∧ Below _ _ _›).2.2 | refine below_drewN ?_ _ | refine Below.drew ?_ | refine Below.alloc ?_ (by first | exact Nat.le_refl _ | (simp; done) | omega | (simp; omega) | exact (‹_ ∧ _ ∧ Below _ _ _›).2.2.size) _ | refine Below.setCell ?_ (by first | exact Nat.le_refl _ | (simp; done) | omega | (simp; omega) | exact (‹_ ∧ _ ∧ Below _ _ _›).2.2.size) _ | refine Below.trans ?_ (Below.mono (by assumption) (by first | exact Nat.le_refl _ | (simp; done) | omega | (simp; omega) | exact (‹_ ∧ _ ∧ Below _ _ _›).2.2.size)))))).mono ?_
      rintro e w1 ⟨rfl, hb1⟩
      go_wp2
      go_ret
      exact ⟨ret_int HF.out.symm, (by repeat (first | (with_reducible exact Below.refl _ _) | (with_reducible assumption) | (with_reducible exact (‹_ ∧ _ ∧ Below _ _ _›).2.2) | (with_reducible refine below_drewN ?_ _) | (with_reducible refine Below.drew ?_) | ((with_reducible refine Below.alloc ?_ ?hsd _); (case hsd => (first | exact Nat.le_refl _ | (simp; done) | omega | (simp; omega) | exact (‹_ ∧ _ ∧ Below _ _ _›).2.2.size))) | ((with_reducible refine Below.setCell ?_ ?hsd _); (case hsd => (first | exact Nat.le_refl _ | (simp; done) | omega | (simp; omega) | exact (‹_ ∧ _ ∧ Below _ _ _›).2.2.size))) | ((with_reducible refine Below.trans ?_ (Below.mono (by with_reducible assumption) ?hsd)); (case hsd => (first | exact Nat.le_refl _ | (simp; done) | omega | (simp; omega) | exact (‹_ ∧ _ ∧ Below _ _ _›).2.2.size))) | exact Below.refl _ _ | assumption | exact (‹_ ∧ _ ∧ Below _ _ _›).2.2 | refine below_drewN ?_ _ | refine Below.drew ?_ | refine Below.alloc ?_ (by first | exact Nat.le_refl _ | (simp; done) | omega | (simp; omega) | exact (‹_ ∧ _ ∧ Below _ _ _›).2.2.size) _ | refine Below.setCell ?_ (by first | exact Nat.le_refl _ | (simp; done) | omega | (simp; omega) | exact (‹_ ∧ _ ∧ Below _ _ _›).2.2.size) _ | refine Below.trans ?_ (Below.mono (by assumption) (by first | exact Nat.le_refl _ | (simp; done) | omega | (simp; omega) | exact (‹_ ∧ _ ∧ Below _ _ _›).2.2.size))))⟩
set_option maxHeartbeats 1600000 in
theorem l_szItemS (B : Nat) (A : Option Addr) (c : Nat) (L : List RItem) (left : Int) (w : World) (hR : RawItems w B A L) (hB : B ≤ w.heap.size) (h0 : -1 ≤ left) (h1 : left ≤ 1048576) :
    Calls Tryz.prog 60 #[.slice A L.length c, .int .i64 left] w fun e w' => e = .returned (.int .i64 (szItems (plI L) left)) ∧ Below w.heap.size w w' := by
  have hn := hR.nb
  have hl := plI_len L
  obtain ⟨n, hnl⟩ : ∃ n, n = L.length := ⟨_, rfl⟩
  rw [← hnl] at hn hl ⊢
  by_cases hlt : left - n < 0
  · have HF : Hid (szItems (plI L) left = -1) := by unfold Hid szItems; rw [if_pos (by omega)]
    clear hl hnl
    go_enter Tryz.func60, Tryz.ntmps60
    go_wp2
    go_ret
    exact ⟨ret_int HF.out.symm, (by repeat (first | (with_reducible exact Below.refl _ _) | (with_reducible assumption) | (with_reducible exact (‹_ ∧ _ ∧ Below _ _ _›).2.2) | (with_reducible refine below_drewN ?_ _) | (with_reducible refine Below.drew ?_) | ((with_reducible refine Below.alloc ?_ ?hsd _); (case hsd => (first | exact Nat.le_refl _ | (simp; done) | omega | (simp; omega) | exact (‹_ ∧ _ ∧ Below _ _ _›).2.2.size))) | ((with_reducible refine Below.setCell ?_ ?hsd _); (case hsd => (first | exact Nat.le_refl _ | (simp; done) | omega | (simp; omega) | exact (‹_ ∧ _ ∧ Below _ _ _›).2.2.size))) | ((with_reducible refine Below.trans ?_ (Below.mono (by with_reducible assumption) ?hsd)); (case hsd => (first | exact Nat.le_refl _ | (simp; done) | omega | (simp; omega) | exact (‹_ ∧ _ ∧ Below _ _ _›).2.2.size))) | exact Below.refl _ _ | assumption | exact (‹_ ∧ _ ∧ Below _ _ _›).2.2 | refine below_drewN ?_ _ | refine Below.drew ?_ | refine Below.alloc ?_ (by first | exact Nat.le_refl _ | (simp; done) | omega | (simp; omega) | exact (‹_ ∧ _ ∧ Below _ _ _›).2.2.size) _ | refine Below.setCell ?_ (by first | exact Nat.le_refl _ | (simp; done) | omega | (simp; omega) | exact (‹_ ∧ _ ∧ Below _ _ _›).2.2.size) _ | refine Below.trans ?_ (Below.mono (by assumption) (by first | exact Nat.le_refl _ | (simp; done) | omega | (simp; omega) | exact (‹_ ∧ _ ∧ Below _ _ _›).2.2.size))))⟩
  · have HF : Hid (szItems (plI L) left = szIts (plI L) (left - n)) := by unfold Hid szItems; rw [if_neg (by omega), hl]
    have HL := Lib.hid hl
    have HN := Lib.hid hnl
    clear hl hnl
    go_enter Tryz.func60, Tryz.ntmps60
    go_wp2
    go_loopw [1, 5] (fun q i wr => ∃ (j : Nat) (x : Int), j ≤ n ∧ i = .int .i64 j ∧ q = .int .i64 x ∧ 0 ≤ x ∧ x ≤ 1048576 ∧ Hid (szIts ((plI L).drop j) x = szIts (plI L) (left - n)) ∧ Below w.heap.size w wr) (fun _ i _ => n - (intOf i).toNat)
    case atStart => exact ⟨0, left - n, Nat.zero_le _, rfl, rfl, by omega, by omega, by unfold Hid; simp, Below.refl _ _⟩
    case round =>
      obtain ⟨j, x, hj, rfl, rfl, hx0, hx1, HX, hb⟩ := hrel
      have hzr := hb.size
      by_cases hjn : j < n
      · obtain ⟨hk1, ad, rfl, hab, hc0, hc1, hc2, hc3⟩ := itemCells_at (hR.rd.below (hb.mono hB)) rfl (by have := HN.out; omega : j < L.length)
        obtain ⟨g1, g2, g3, g4⟩ := hR.in_ _ (List.getElem_mem hk1)
        have hx : (plI L)[j]'(by have := HL.out; omega) = L[j].x := by simp [plI]
        have HST := Lib.hid (szIts_drop (l := plI L) (j := j) (by have := HL.out; omega) x)
        rw [hx] at HST
        clear hx
        have hge := szItem_ge L[j].x.nm L[j].x.ss x
        have hub := szItem_ub L[j].x.nm L[j].x.ss x (by omega)
        have hcon := l_szItem L[j].x.nm L[j].x.d L[j].x.f B L[j].A _ L[j].c L[j].x.ss x wr (by omega) (g1.below (hb.mono hB)) g2 g3 g4 (by omega) (by omega)
        have HCON := hide hcon
        clear hcon g1 g2 g3
        generalize hy : szItem L[j].x.nm L[j].x.ss x = y at *
        clear hy
        by_cases hneg : y < 0
        · have HR : Hid (szIts (plI L) (left - n) = -1) := by unfold Hid; rw [← HX.out, HST.out, if_pos hneg]
          go_wp2_with (first | (go_at_call 117; refine (unhide HCON).mono ?_; rintro e w1 ⟨rfl, hb1⟩))
          go_ret
          exact ⟨ret_int (by rw [HF.out, HR.out]), (by repeat (first | (with_reducible exact Below.refl _ _) | (with_reducible assumption) | (with_reducible exact (‹_ ∧ _ ∧ Below _ _ _›).2.2) | (with_reducible refine below_drewN ?_ _) | (with_reducible refine Below.drew ?_) | ((with_reducible refine Below.alloc ?_ ?hsd _); (case hsd => (first | exact Nat.le_refl _ | (simp; done) | omega | (simp; omega) | exact (‹_ ∧ _ ∧ Below _ _ _›).2.2.size))) | ((with_reducible refine Below.setCell ?_ ?hsd _); (case hsd => (first | exact Nat.le_refl _ | (simp; done) | omega | (simp; omega) | exact (‹_ ∧ _ ∧ Below _ _ _›).2.2.size))) | ((with_reducible refine Below.trans ?_ (Below.mono (by with_reducible assumption) ?hsd)); (case hsd => (first | exact Nat.le_refl _ | (simp; done) | omega | (simp; omega) | exact (‹_ ∧ _ ∧ Below _ _ _›).2.2.size))) | exact Below.refl _ _ | assumption | exact (‹_ ∧ _ ∧ Below _ _ _›).2.2 | refine below_drewN ?_ _ | refine Below.drew ?_ | refine Below.alloc ?_ (by first | exact Nat.le_refl _ | (simp; done) | omega | (simp; omega) | exact (‹_ ∧ _ ∧ Below _ _ _›).2.2.size) _ | refine Below.setCell ?_ (by first | exact Nat.le_refl _ | (simp; done) | omega | (simp; omega) | exact (‹_ ∧ _ ∧ Below _ _ _›).2.2.size) _ | refine Below.trans ?_ (Below.mono (by assumption) (by first | exact Nat.le_refl _ | (simp; done) | omega | (simp; omega) | exact (‹_ ∧ _ ∧ Below _ _ _›).2.2.size))))⟩
        · have HR : Hid (szIts ((plI L).drop (j + 1)) y = szIts (plI L) (left - n)) := by unfold Hid; rw [← HX.out, HST.out, if_neg hneg]
          go_wp2_with (first | (go_at_call 117; refine (unhide HCON).mono ?_; rintro e w1 ⟨rfl, hb1⟩))
          go_roundw
          case rel => exact ⟨j + 1, y, by omega, by go_num, rfl, by omega, by omega, HR.out, (by repeat (first | (with_reducible exact Below.refl _ _) | (with_reducible assumption) | (with_reducible exact (‹_ ∧ _ ∧ Below _ _ _›).2.2) | (with_reducible refine below_drewN ?_ _) | (with_reducible refine Below.drew ?_) | ((with_reducible refine Below.alloc ?_ ?hsd _); (case hsd => (first | exact Nat.le_refl _ | (simp; done) | omega | (simp; omega) | exact (‹_ ∧ _ ∧ Below _ _ _›).2.2.size))) | ((with_reducible refine Below.setCell ?_ ?hsd _); (case hsd => (first | exact Nat.le_refl _ | (simp; done) | omega | (simp; omega) | exact (‹_ ∧ _ ∧ Below _ _ _›).2.2.size))) | ((with_reducible refine Below.trans ?_ (Below.mono (by with_reducible assumption) ?hsd)); (case hsd => (first | exact Nat.le_refl _ | (simp; done) | omega | (simp; omega) | exact (‹_ ∧ _ ∧ Below _ _ _›).2.2.size))) | exact Below.refl _ _ | assumption | exact (‹_ ∧ _ ∧ Below _ _ _›).2.2 | refine below_drewN ?_ _ | refine Below.drew ?_ | refine Below.alloc ?_ (by first | exact Nat.le_refl _ | (simp; done) | omega | (simp; omega) | exact (‹_ ∧ _ ∧ Below _ _ _›).2.2.size) _ | refine Below.setCell ?_ (by first | exact Nat.le_refl _ | (simp; done) | omega | (simp; omega) | exact (‹_ ∧ _ ∧ Below _ _ _›).2.2.size) _ | refine Below.trans ?_ (Below.mono (by assumption) (by first | exact Nat.le_refl _ | (simp; done) | omega | (simp; omega) | exact (‹_ ∧ _ ∧ Below _ _ _›).2.2.size))))⟩
          case measure => simp [intOf]; omega
      · have hjn' : j = n := by omega
        have hd : (plI L).drop j = [] := List.drop_eq_nil_of_le (by have := HL.out; omega)
        have HR : Hid (szIts (plI L) (left - n) = x) := by unfold Hid; rw [← HX.out, hd]; rfl
        subst hjn'
        clear hd
        go_wp2
        go_ret
        exact ⟨ret_int (by rw [HF.out, HR.out]), hb⟩
/-- an item of the call's own -/
def UItem (nm : ByteArray) (d f : Int) (ss : List ByteArray) (w : World) (e : Ending) (w' : World) : Prop :=
  ∃ A c, e = .returned (.agg #[.string nm, .int .i64 d, .int .i64 f, .slice A ss.length c]) ∧ OwnS w' w.heap.size w'.heap.size A c ss ∧ Below w.heap.size w w'
set_option maxHeartbeats 800000 in
theorem u_toItem (nm : ByteArray) (d f : Int) (B : Nat) (A : Option Addr) (n c : Nat) (ss : List ByteArray) (w : World) (hS : Strs w B A n ss) (hB : B ≤ w.heap.size) :
    Calls Tryz.prog 124 #[.agg #[.string nm, .int .i64 d, .int .i64 f, .slice A n c]] w (UItem nm d f ss w) := by
  go_enter Tryz.func124, Tryz.ntmps124
  go_wp2_with fail
  refine (l_toCard d f B A n c ss _ (by exact hS.below (Below.mono (B := w.heap.size) (by repeat (first | (with_reducible exact Below.refl _ _) | (with_reducible assumption) | (with_reducible exact (‹_ ∧ _ ∧ Below _ _ _›).2.2) | (with_reducible refine below_drewN ?_ _) | (with_reducible refine Below.drew ?_) | ((with_reducible refine Below.alloc ?_ ?hsd _); (case hsd => (first | exact Nat.le_refl _ | (simp; done) | omega | (simp; omega) | exact (‹_ ∧ _ ∧ Below _ _ _›).2.2.size))) | ((with_reducible refine Below.setCell ?_ ?hsd _); (case hsd => (first | exact Nat.le_refl _ | (simp; done) | omega | (simp; omega) | exact (‹_ ∧ _ ∧ Below _ _ _›).2.2.size))) | ((with_reducible refine Below.trans ?_ (Below.mono (by with_reducible assumption) ?hsd)); (case hsd => (first | exact Nat.le_refl _ | (simp; done) | omega | (simp; omega) | exact (‹_ ∧ _ ∧ Below _ _ _›).2.2.size))) | exact Below.refl _ _ | assumption | exact (‹_ ∧ _ ∧ Below _ _ _›).2.2 | refine below_drewN ?_ _ | refine Below.drew ?_ | refine Below.alloc ?_ (by first | exact Nat.le_refl _ | (simp; done) | omega | (simp; omega) | exact (‹_ ∧ _ ∧ Below _ _ _›).2.2.size) _ | refine Below.setCell ?_ (by first | exact Nat.le_refl _ | (simp; done) | omega | (simp; omega) | exact (‹_ ∧ _ ∧ Below _ _ _›).2.2.size) _ | refine Below.trans ?_ (Below.mono (by assumption) (by first | exact Nat.le_refl _ | (simp; done) | omega | (simp; omega) | exact (‹_ ∧ _ ∧ Below _ _ _›).2.2.size)))) hB)) (by simp; omega)).mono ?_
  rintro e w1 ⟨A1, c1, rfl, ho1, hb1⟩
  obtain ⟨hcb, hfb⟩ := bcell hb1
  have hz_w1_0 : w.heap.size < w1.heap.size := (by have hzz := hb1.size; (try simp at hzz); omega); have hy_w1_0 := Nat.le_of_lt hz_w1_0; have hz_w1_1 : w.heap.size + 1 < w1.heap.size := (by have hzz := hb1.size; (try simp at hzz); omega); have hy_w1_1 := Nat.le_of_lt hz_w1_1; have hz_w1_2 : w.heap.size + 1 + 1 < w1.heap.size := (by have hzz := hb1.size; (try simp at hzz); omega); have hy_w1_2 := Nat.le_of_lt hz_w1_2
  go_wp2
  refine bodyPost_ret (v := .agg #[.string nm, .int .i64 d, .int .i64 f, .slice A1 ss.length c1]) (by simp [results, Tryz.results124, go_sem, *]) rfl ?_
  refine ⟨A1, c1, rfl, OwnS.of (own_up ho1 (by repeat (first | (with_reducible exact Upper.refl _ _) | (with_reducible refine Upper.drew ?_) | (with_reducible refine Upper.drewN ?_ _) | ((with_reducible refine Upper.setCell ?_ ?hsd _); (case hsd => (first | exact Nat.le_refl _ | (simp; done) | omega | (simp; omega) | exact (‹_ ∧ _ ∧ Below _ _ _›).2.2.size))) | (with_reducible refine Upper.alloc ?_ _) | (with_reducible refine Upper.below ?_ (by with_reducible assumption)) | exact Upper.refl _ _ | refine Upper.drew ?_ | refine Upper.drewN ?_ _ | refine Upper.setCell ?_ (by first | exact Nat.le_refl _ | (simp; done) | omega | (simp; omega) | exact (‹_ ∧ _ ∧ Below _ _ _›).2.2.size) _ | refine Upper.alloc ?_ _ | refine Upper.below ?_ (by assumption))) (by first | exact Nat.le_refl _ | (simp; done) | omega | (simp; omega) | exact (‹_ ∧ _ ∧ Below _ _ _›).2.2.size)) (by simp), (by repeat (first | (with_reducible exact Below.refl _ _) | (with_reducible assumption) | (with_reducible exact (‹_ ∧ _ ∧ Below _ _ _›).2.2) | (with_reducible refine below_drewN ?_ _) | (with_reducible refine Below.drew ?_) | ((with_reducible refine Below.alloc ?_ ?hsd _); (case hsd => (first | exact Nat.le_refl _ | (simp; done) | omega | (simp; omega) | exact (‹_ ∧ _ ∧ Below _ _ _›).2.2.size))) | ((with_reducible refine Below.setCell ?_ ?hsd _); (case hsd => (first | exact Nat.le_refl _ | (simp; done) | omega | (simp; omega) | exact (‹_ ∧ _ ∧ Below _ _ _›).2.2.size))) | ((with_reducible refine Below.trans ?_ (Below.mono (by with_reducible assumption) ?hsd)); (case hsd => (first | exact Nat.le_refl _ | (simp; done) | omega | (simp; omega) | exact (‹_ ∧ _ ∧ Below _ _ _›).2.2.size))) | exact Below.refl _ _ | assumption | exact (‹_ ∧ _ ∧ Below _ _ _›).2.2 | refine below_drewN ?_ _ | refine Below.drew ?_ | refine Below.alloc ?_ (by first | exact Nat.le_refl _ | (simp; done) | omega | (simp; omega) | exact (‹_ ∧ _ ∧ Below _ _ _›).2.2.size) _ | refine Below.setCell ?_ (by first | exact Nat.le_refl _ | (simp; done) | omega | (simp; omega) | exact (‹_ ∧ _ ∧ Below _ _ _›).2.2.size) _ | refine Below.trans ?_ (Below.mono (by assumption) (by first | exact Nat.le_refl _ | (simp; done) | omega | (simp; omega) | exact (‹_ ∧ _ ∧ Below _ _ _›).2.2.size))))⟩
theorem set4 (A C : List Value) (p : Nat) (hp : A.length = p) (z0 z1 z2 z3 c0 c1 c2 c3 : Value) : (((((A ++ ([z0, z1, z2, z3] ++ C)).set (p) c0).set (p + 1) c1).set (p + 2) c2).set (p + 3) c3) = A ++ ([c0, c1, c2, c3] ++ C) := by
  subst hp
  induction A with
  | nil => rfl
  | cons a A ih =>
    simp only [List.cons_append, List.length_cons, Nat.add_right_comm _ 1, List.set_cons_succ]
    exact congrArg (a :: ·) (by simp)
theorem own_wide_hi {w : World} {lo hi hi' : Nat} {A : Option Addr} {c : Nat} {ss : List ByteArray} (h : OwnS w lo hi A c ss) (hh : hi ≤ hi') : OwnS w lo hi' A c ss := h.wide (Nat.le_refl _) hh
/-- one element of a row of items is turned -/
theorem OwnItems.put {w w' : World} {lo hi hi' n c : Nat} {A : Option Addr} {M1 M2 : List RItem} {r0 r : RItem} (ho : OwnItems w lo hi A n c (M1 ++ r0 :: M2)) (hr : OwnS w lo hi' r.A r.c r.x.ss) (hh : hi ≤ hi')
    (hne : ∀ s ∈ M1 ++ M2, ∀ k, s.v.ownBlock = some k → r.v.ownBlock ≠ some k) (hg : w.grownBy w' (Value.slice A n c).ownBlock) (h2 : w'.ownsRow lo 132 4 (.slice A n c) n ((M1 ++ r :: M2).flatMap itemCells)) :
    OwnItems w' lo hi' A n c (M1 ++ r :: M2) := by
  have key : ∀ s : RItem, OwnS w lo hi' s.A s.c s.x.ss → OwnS w' lo hi' s.A s.c s.x.ss := fun s hs =>
    ⟨own_grown hs.row hg (fun k hk he => own_ne_type hs.row ho.row (by decide) k hk he), hs.top⟩
  have hap := ho.apart
  rw [List.pairwise_append, List.pairwise_cons] at hap
  refine ⟨h2, fun k hk => by have := ho.top k hk; omega, ?_, ?_⟩
  · intro s hs
    rcases List.mem_append.1 hs with h | h
    · exact key s ((ho.in_ s (List.mem_append_left _ h)).wide (Nat.le_refl _) hh)
    · rcases List.mem_cons.1 h with rfl | h
      · exact key _ hr
      · exact key s ((ho.in_ s (List.mem_append_right _ (List.mem_cons_of_mem _ h))).wide (Nat.le_refl _) hh)
  · rw [List.pairwise_append, List.pairwise_cons]
    refine ⟨hap.1, ⟨fun b hb k hk hk2 => hne b (List.mem_append_right _ hb) k hk2 hk, hap.2.1.2⟩, fun a ha b hb => ?_⟩
    rcases List.mem_cons.1 hb with rfl | hb
    · exact hne a (List.mem_append_left _ ha)
    · exact hap.2.2 a ha b (List.mem_cons_of_mem _ hb)
/-- one element's strips are turned in their place -/
theorem OwnItems.inner {w w' : World} {lo hi n c : Nat} {A : Option Addr} {M1 M2 : List RItem} {r : RItem} {ss : List ByteArray} (ho : OwnItems w lo hi A n c (M1 ++ r :: M2)) (hl : ss.length = r.x.ss.length)
    (h1 : w'.ownsRow lo 9 1 (.slice r.A ss.length r.c) ss.length (ss.map Value.string)) (hg : w.grownBy w' r.v.ownBlock) :
    OwnItems w' lo hi A n c (M1 ++ ⟨⟨r.x.nm, r.x.d, r.x.f, ss⟩, r.A, r.c⟩ :: M2) := by
  have hap := ho.apart
  rw [List.pairwise_append, List.pairwise_cons] at hap
  have hrin := ho.in_ r (List.mem_append_right _ List.mem_cons_self)
  have hc : (M1 ++ (⟨⟨r.x.nm, r.x.d, r.x.f, ss⟩, r.A, r.c⟩ : RItem) :: M2).flatMap itemCells = (M1 ++ ⟨⟨r.x.nm, r.x.d, r.x.f, r.x.ss⟩, r.A, r.c⟩ :: M2).flatMap itemCells := by
    rw [List.flatMap_append, List.flatMap_append, List.flatMap_cons, List.flatMap_cons]
    simp [itemCells, hl]
  have hv : (RItem.v ⟨⟨r.x.nm, r.x.d, r.x.f, ss⟩, r.A, r.c⟩) = r.v := by show Value.slice r.A ss.length r.c = Value.slice r.A r.x.ss.length r.c; rw [hl]
  have hap2 := hap.2.1.1
  have hap3 := hap.2.2
  refine ⟨?_, ho.top, ?_, ?_⟩
  · rw [hc]
    exact own_grown ho.row hg (fun k hk he => own_ne_type hrin.row ho.row (by decide) k he hk)
  · intro s hs
    have key : ∀ s ∈ M1 ++ M2, (∀ k, s.v.ownBlock = some k → r.v.ownBlock ≠ some k) → OwnS w lo hi s.A s.c s.x.ss → OwnS w' lo hi s.A s.c s.x.ss := fun s _ hne hs => ⟨own_grown hs.row hg (fun k hk he => hne k hk he), hs.top⟩
    rcases List.mem_append.1 hs with h | h
    · exact key s (List.mem_append_left _ h) (fun k hk => hap3 s h r List.mem_cons_self k hk) (ho.in_ s (List.mem_append_left _ h))
    · rcases List.mem_cons.1 h with rfl | h
      · refine ⟨h1, fun k hk => hrin.top k ?_⟩
        rw [hl] at hk
        exact hk
      · exact key s (List.mem_append_right _ h) (fun k hk he => hap2 s h k he hk) (ho.in_ s (List.mem_append_right _ (List.mem_cons_of_mem _ h)))
  · rw [List.pairwise_append, List.pairwise_cons, hv]
    refine ⟨hap.1, ⟨hap2, hap.2.1.2⟩, fun a ha b hb => ?_⟩
    rcases List.mem_cons.1 hb with rfl | hb
    · rw [hv]; exact hap3 a ha r List.mem_cons_self
    · exact hap3 a ha b (List.mem_cons_of_mem _ hb)
def zItem : RItem := ⟨⟨ByteArray.empty, 0, 0, []⟩, none, 0⟩
theorem zItem_own (w : World) (lo hi : Nat) : OwnS w lo hi zItem.A zItem.c zItem.x.ss := ⟨World.ownsRow_nil w _ _ _, fun k hk => by simp [zItem, Value.ownBlock] at hk⟩
/-- fresh items -/
def UItems (P : List PItem) (w : World) (e : Ending) (w' : World) : Prop :=
  ∃ A c L, e = .returned (.slice A P.length c) ∧ plI L = P ∧ OwnItems w' w.heap.size w'.heap.size A P.length c L ∧ Below w.heap.size w w'
theorem flat_reps (n : Nat) : (List.replicate n zItem).flatMap itemCells = reps [.string ByteArray.empty, .int .i64 0, .int .i64 0, .slice none 0 0] n := by
  induction n with
  | zero => rfl
  | succ n ih => rw [List.replicate_succ, List.flatMap_cons, ih, reps_succ]; rfl
set_option maxHeartbeats 3200000 in
theorem u_toItemS (P : List PItem) (B : Nat) (A : Option Addr) (c : Nat) (L : List RItem) (w : World) (hp : plI L = P) (hS : Items w B A L.length L) (hB : B ≤ w.heap.size) :
    Calls Tryz.prog 67 #[.slice A L.length c] w (UItems P w) := by
  have hn := hS.nb
  have hl := plI_len L
  rw [hp] at hl
  obtain ⟨n, hnl⟩ : ∃ n, n = L.length := ⟨_, rfl⟩
  rw [← hnl] at hn hl ⊢
  have HL := Lib.hid hl
  have HN := Lib.hid hnl
  have HP := Lib.hid hp
  clear hl hp hnl
  obtain ⟨i0, hi0, hz0, hz1, hz2⟩ := info_parts info_itemCells
  have hmk := run_make_rowN (P := Tryz.prog) 38 132 i0 _ Tryz.underlying38 hi0 hz0 .i64 .i64 n n (Nat.le_refl _) (by rw [hz2]; omega) (by omega) w
  rw [hz1] at hmk
  go_enter Tryz.func67, Tryz.ntmps67
  go_wp2
  go_loopw [4] (fun i wr => ∃ (j : Nat) (M : List RItem), j ≤ n ∧ i = .int .i64 j ∧ Hid (M.length = j) ∧ Hid (plI M = P.take j) ∧ OwnItems wr w.heap.size wr.heap.size (some ⟨w.heap.size, 0, none⟩) n n (M ++ List.replicate (n - j) zItem) ∧ Below w.heap.size w wr) (fun i _ => n - (intOf i).toNat)
  case atStart =>
    refine ⟨0, [], Nat.zero_le _, rfl, rfl, rfl, ?_, (by repeat (first | (with_reducible exact Below.refl _ _) | (with_reducible assumption) | (with_reducible exact (‹_ ∧ _ ∧ Below _ _ _›).2.2) | (with_reducible refine below_drewN ?_ _) | (with_reducible refine Below.drew ?_) | ((with_reducible refine Below.alloc ?_ ?hsd _); (case hsd => (first | exact Nat.le_refl _ | (simp; done) | omega | (simp; omega) | exact (‹_ ∧ _ ∧ Below _ _ _›).2.2.size))) | ((with_reducible refine Below.setCell ?_ ?hsd _); (case hsd => (first | exact Nat.le_refl _ | (simp; done) | omega | (simp; omega) | exact (‹_ ∧ _ ∧ Below _ _ _›).2.2.size))) | ((with_reducible refine Below.trans ?_ (Below.mono (by with_reducible assumption) ?hsd)); (case hsd => (first | exact Nat.le_refl _ | (simp; done) | omega | (simp; omega) | exact (‹_ ∧ _ ∧ Below _ _ _›).2.2.size))) | exact Below.refl _ _ | assumption | exact (‹_ ∧ _ ∧ Below _ _ _›).2.2 | refine below_drewN ?_ _ | refine Below.drew ?_ | refine Below.alloc ?_ (by first | exact Nat.le_refl _ | (simp; done) | omega | (simp; omega) | exact (‹_ ∧ _ ∧ Below _ _ _›).2.2.size) _ | refine Below.setCell ?_ (by first | exact Nat.le_refl _ | (simp; done) | omega | (simp; omega) | exact (‹_ ∧ _ ∧ Below _ _ _›).2.2.size) _ | refine Below.trans ?_ (Below.mono (by assumption) (by first | exact Nat.le_refl _ | (simp; done) | omega | (simp; omega) | exact (‹_ ∧ _ ∧ Below _ _ _›).2.2.size))))⟩
    have h := World.ownsRow_lit (w := w) (base := w.heap.size) (e := 132) (size := 4) (madeCells #[Value.string ByteArray.empty, .int .i64 0, .int .i64 0, .slice none 0 0] (n * 4)) n (Nat.le_refl _) (by unfold maxLen; omega) (by simp [madeCells])
    have hm := made_reps [Value.string ByteArray.empty, .int .i64 0, .int .i64 0, .slice none 0 0] n (by simp)
    rw [show (madeCells #[Value.string ByteArray.empty, .int .i64 0, .int .i64 0, .slice none 0 0] (n * 4)).toList = reps [Value.string ByteArray.empty, .int .i64 0, .int .i64 0, .slice none 0 0] n from hm, ← flat_reps] at h
    refine ⟨by simpa using h, fun k hk => (h.lt k hk).2, fun r hr => ?_, ?_⟩
    · have := (List.mem_replicate.1 (by simpa using hr)).2
      subst this
      exact zItem_own _ _ _
    · simp only [List.nil_append]
      rw [List.pairwise_replicate]
      right
      intro k hk
      simp [zItem, RItem.v, Value.ownBlock] at hk
  case round =>
    obtain ⟨j, M, hj, rfl, HM, HT, hown, hb⟩ := hrel
    have hzr := hb.size
    by_cases hlt : j < n
    · obtain ⟨hk1, ad, rfl, hab, hc0, hc1, hc2, hc3, hss, hnm⟩ := (hS.below (hb.mono hB)).at_ (by have := HN.out; omega : j < L.length)
      have hjn : j * 4 + 4 ≤ n * 4 := by omega
      have hrep : List.replicate (n - j) zItem = zItem :: List.replicate (n - (j + 1)) zItem := by rw [show n - j = (n - (j + 1)) + 1 from by omega, List.replicate_succ]
      rw [hrep] at hown
      clear hrep
      go_wp2_with (go_at_call 124; refine (u_toItem _ _ _ B _ _ _ _ _ hss (by omega)).mono ?_; rintro e w1 ⟨A1, c1, rfl, hor, hb1⟩; have ho1 := hown.below hb1; obtain ⟨u0, hu0⟩ := own_cellk ho1.row (j * 4) (by omega); have hf0 := ho1.row.frozenAt (j * 4); obtain ⟨u1, hu1⟩ := own_cellk ho1.row (j * 4 + 1) (by omega); have hf1 := ho1.row.frozenAt (j * 4 + 1); obtain ⟨u2, hu2⟩ := own_cellk ho1.row (j * 4 + 2) (by omega); have hf2 := ho1.row.frozenAt (j * 4 + 2); obtain ⟨u3, hu3⟩ := own_cellk ho1.row (j * 4 + 3) (by omega); have hf3 := ho1.row.frozenAt (j * 4 + 3))
      go_roundw
      case rel =>
        have hst0 := ho1.row.stored (j * 4) (.string L[j].x.nm)
        have hst1 := hst0.1.stored (j * 4 + 1) (.int .i64 L[j].x.d)
        have hst2 := hst1.1.stored (j * 4 + 2) (.int .i64 L[j].x.f)
        have hst3 := hst2.1.stored (j * 4 + 3) (.slice A1 L[j].x.ss.length c1)
        have hgr := only_trans (only_trans (only_trans (hst0.2) hst1.2) hst2.2) hst3.2
        have ho2 := hst3.1
        have hA : (M.flatMap itemCells).length = j * 4 := by rw [flat_len itemCells_len, HM.out]
        rw [List.flatMap_append, List.flatMap_cons, show itemCells zItem = [.string ByteArray.empty, .int .i64 0, .int .i64 0, .slice none 0 0] from rfl, set4 _ _ (j * 4) hA] at ho2
        have hput := ho1.put (r := ⟨L[j].x, A1, c1⟩) (hi' := w1.heap.size) (hor.wide hzr (Nat.le_refl _)) hb1.size ?_ hgr (by rw [List.flatMap_append, List.flatMap_cons]; exact ho2)
        · refine ⟨j + 1, M ++ [⟨L[j].x, A1, c1⟩], by omega, by go_num, by unfold Hid; rw [List.length_append, HM.out]; rfl, ?_, ?_, ?_⟩
          · unfold Hid
            have hx : (plI L)[j]'(by rw [plI_len]; exact hk1) = L[j].x := by simp [plI]
            have hP := HP.out
            rw [show plI (M ++ [⟨L[j].x, A1, c1⟩]) = plI M ++ [L[j].x] by simp [plI], HT.out, ← hx, List.take_succ_eq_append_getElem (by have := HL.out; omega)]
            simp [← hP]
          · rw [List.append_assoc]
            simpa [World.setCell] using hput
          · exact only_below_B (hb.trans (hb1.mono hb.size)) hgr
        · intro s hs k hk hk2
          have q1 : k < wr.heap.size := by
            rcases List.mem_append.1 hs with h | h
            · exact ((hown.in_ s (List.mem_append_left _ h)).row.lt k hk).2
            · exact ((hown.in_ s (List.mem_append_right _ (List.mem_cons_of_mem _ h))).row.lt k hk).2
          have q2 := (hor.row.lt k hk2).1
          omega
      case measure => simp [intOf]; omega
    · have hjn : j = n := by omega
      subst hjn
      rw [Nat.sub_self, List.replicate_zero, List.append_nil] at hown
      have hT : plI M = P := by rw [HT.out]; exact List.take_of_length_le (by have := HL.out; omega)
      have HO := hide (And.intro hT hown)
      clear hown hT
      go_wp2
      go_ret
      have hl := HL.out
      obtain ⟨h1, h2⟩ := unhide HO
      subst hl
      exact ⟨_, _, M, rfl, h1, h2, hb⟩
set_option maxHeartbeats 800000 in
theorem l_eqItem_same (nm : ByteArray) (d f : Int) (B : Nat) (A1 A2 : Option Addr) (n1 n2 c1 c2 : Nat) (ss : List ByteArray) (w : World) (h1 : Strs w B A1 n1 ss) (h2 : Strs w B A2 n2 ss) (hB : B ≤ w.heap.size) :
    Calls Tryz.prog 134 #[.agg #[.string nm, .int .i64 d, .int .i64 f, .slice A1 n1 c1], .agg #[.string nm, .int .i64 d, .int .i64 f, .slice A2 n2 c2]] w fun e w' => e = .returned (.bool true) ∧ Below w.heap.size w w' := by
  have hbq := beq_toList_true (rfl : nm = nm)
  go_enter Tryz.func134, Tryz.ntmps134
  go_wp2_with (go_at_call 24; refine (l_eqCard_args d f B _ _ _ _ _ _ ss _ ((h1.alloc hB _).alloc (by simp; omega) _) ((h2.alloc hB _).alloc (by simp; omega) _) (by simp; omega)).mono ?_; rintro e w1 ⟨rfl, hb1⟩)
  go_ret
  exact ⟨rfl, (by repeat (first | (with_reducible exact Below.refl _ _) | (with_reducible assumption) | (with_reducible exact (‹_ ∧ _ ∧ Below _ _ _›).2.2) | (with_reducible refine below_drewN ?_ _) | (with_reducible refine Below.drew ?_) | ((with_reducible refine Below.alloc ?_ ?hsd _); (case hsd => (first | exact Nat.le_refl _ | (simp; done) | omega | (simp; omega) | exact (‹_ ∧ _ ∧ Below _ _ _›).2.2.size))) | ((with_reducible refine Below.setCell ?_ ?hsd _); (case hsd => (first | exact Nat.le_refl _ | (simp; done) | omega | (simp; omega) | exact (‹_ ∧ _ ∧ Below _ _ _›).2.2.size))) | ((with_reducible refine Below.trans ?_ (Below.mono (by with_reducible assumption) ?hsd)); (case hsd => (first | exact Nat.le_refl _ | (simp; done) | omega | (simp; omega) | exact (‹_ ∧ _ ∧ Below _ _ _›).2.2.size))) | exact Below.refl _ _ | assumption | exact (‹_ ∧ _ ∧ Below _ _ _›).2.2 | refine below_drewN ?_ _ | refine Below.drew ?_ | refine Below.alloc ?_ (by first | exact Nat.le_refl _ | (simp; done) | omega | (simp; omega) | exact (‹_ ∧ _ ∧ Below _ _ _›).2.2.size) _ | refine Below.setCell ?_ (by first | exact Nat.le_refl _ | (simp; done) | omega | (simp; omega) | exact (‹_ ∧ _ ∧ Below _ _ _›).2.2.size) _ | refine Below.trans ?_ (Below.mono (by assumption) (by first | exact Nat.le_refl _ | (simp; done) | omega | (simp; omega) | exact (‹_ ∧ _ ∧ Below _ _ _›).2.2.size))))⟩
theorem u_eqItem (nm : ByteArray) (d f : Int) (A1 A2 : Option Addr) (c1 c2 : Nat) (ss : List ByteArray) (lo1 hi1 lo2 hi2 : Nat) (w : World) (h1 : OwnS w lo1 hi1 A1 c1 ss) (h2 : OwnS w lo2 hi2 A2 c2 ss) (hok : OkS ss 16777216) :
    Calls Tryz.prog 134 #[.agg #[.string nm, .int .i64 d, .int .i64 f, .slice A1 ss.length c1], .agg #[.string nm, .int .i64 d, .int .i64 f, .slice A2 ss.length c2]] w fun e w' => e = .returned (.bool true) ∧ Below w.heap.size w w' :=
  l_eqItem_same nm d f w.heap.size A1 A2 _ _ c1 c2 ss w (h1.rd hok.1 hok.2) (h2.rd hok.1 hok.2) (Nat.le_refl _)
set_option maxHeartbeats 1600000 in
theorem l_eqItemS_same (B : Nat) (A1 A2 : Option Addr) (n c1 c2 : Nat) (L1 L2 : List RItem) (w : World) (h1 : Items w B A1 n L1) (h2 : Items w B A2 n L2) (hp : plI L1 = plI L2) (hB : B ≤ w.heap.size) :
    Calls Tryz.prog 74 #[.slice A1 n c1, .slice A2 n c2] w fun e w' => e = .returned (.bool true) ∧ Below w.heap.size w w' := by
  have hn := h1.nb
  have HP := Lib.hid hp
  clear hp
  go_enter Tryz.func74, Tryz.ntmps74
  go_wp2
  go_loopw [5] (fun i wr => ∃ j : Nat, j ≤ n ∧ i = .int .i64 j ∧ Below w.heap.size w wr) (fun i _ => n - (intOf i).toNat)
  case atStart => exact ⟨0, Nat.zero_le _, rfl, Below.refl _ _⟩
  case round =>
    obtain ⟨j, hj, rfl, hb⟩ := hrel
    have hzr := hb.size
    by_cases hlt : j < n
    · obtain ⟨hk1, ad1, rfl, hab1, ha0, ha1, ha2, ha3, hs1, _⟩ := (h1.below (hb.mono hB)).at_ hlt
      obtain ⟨hk2, ad2, rfl, hab2, hc0, hc1, hc2, hc3, hs2, _⟩ := (h2.below (hb.mono hB)).at_ hlt
      have hx := plI_get HP.out hk1 hk2
      rw [← hx] at hc0 hc1 hc2 hc3 hs2
      clear hx
      have hq1 : (ad1.add (j * 4)).block < wr.heap.size := by rw [block_of_add]; omega
      have hq2 : (ad2.add (j * 4)).block < wr.heap.size := by rw [block_of_add]; omega
      have hs1' := hs1.more (B' := wr.heap.size) (by omega)
      have hs2' := hs2.more (B' := wr.heap.size) (by omega)
      go_wp2
      go_region_held3 (fun W => (∀ p : Addr, p.block < wr.heap.size → W.cell? p = (wr).cell? p) ∧ (∀ p : Addr, p.block < wr.heap.size → W.frozen? p = (wr).frozen? p) ∧ Below (wr.heap.size) (wr) W) (exact keep_ofP (by repeat (first | (with_reducible exact Below.refl _ _) | (with_reducible assumption) | (with_reducible exact (‹_ ∧ _ ∧ Below _ _ _›).2.2) | (with_reducible refine below_drewN ?_ _) | (with_reducible refine Below.drew ?_) | ((with_reducible refine Below.alloc ?_ ?hsd _); (case hsd => (first | exact Nat.le_refl _ | (simp; done) | omega | (simp; omega) | exact (‹_ ∧ _ ∧ Below _ _ _›).2.2.size))) | ((with_reducible refine Below.setCell ?_ ?hsd _); (case hsd => (first | exact Nat.le_refl _ | (simp; done) | omega | (simp; omega) | exact (‹_ ∧ _ ∧ Below _ _ _›).2.2.size))) | ((with_reducible refine Below.trans ?_ (Below.mono (by with_reducible assumption) ?hsd)); (case hsd => (first | exact Nat.le_refl _ | (simp; done) | omega | (simp; omega) | exact (‹_ ∧ _ ∧ Below _ _ _›).2.2.size))) | exact Below.refl _ _ | assumption | exact (‹_ ∧ _ ∧ Below _ _ _›).2.2 | refine below_drewN ?_ _ | refine Below.drew ?_ | refine Below.alloc ?_ (by first | exact Nat.le_refl _ | (simp; done) | omega | (simp; omega) | exact (‹_ ∧ _ ∧ Below _ _ _›).2.2.size) _ | refine Below.setCell ?_ (by first | exact Nat.le_refl _ | (simp; done) | omega | (simp; omega) | exact (‹_ ∧ _ ∧ Below _ _ _›).2.2.size) _ | refine Below.trans ?_ (Below.mono (by assumption) (by first | exact Nat.le_refl _ | (simp; done) | omega | (simp; omega) | exact (‹_ ∧ _ ∧ Below _ _ _›).2.2.size))))) ((go_at_call 134; have hq := (‹_ ∧ _ ∧ Below _ _ _›).2.2; refine (l_eqItem_same _ _ _ wr.heap.size _ _ _ _ _ _ _ _ (hs1'.below hq) (hs2'.below hq) hq.size).mono ?_; rintro e w3 ⟨rfl, hb3⟩))
      have hb3' : Below wr.heap.size wr w3 := (Below.refl _ _).drew.trans hb3
      go_wp2
      go_roundw
      case rel => exact ⟨j + 1, by omega, by go_num, hb.trans (hb3'.mono hzr)⟩
      case measure => simp [intOf]; omega
    · go_wp2
      go_ret
      exact ⟨rfl, hb⟩
theorem OwnItems.rdP {w : World} {lo hi c : Nat} {A : Option Addr} {L : List RItem} {P : List PItem} (ho : OwnItems w lo hi A P.length c L) (hp : plI L = P) (hP : OkItems P 16777216) : Items w w.heap.size A P.length L := by
  subst hp; exact ho.rdOk hP
theorem u_eqItemS (P : List PItem) (A1 A2 : Option Addr) (c1 c2 : Nat) (L1 L2 : List RItem) (lo1 hi1 lo2 hi2 : Nat) (w : World) (h1 : OwnItems w lo1 hi1 A1 P.length c1 L1) (h2 : OwnItems w lo2 hi2 A2 P.length c2 L2) (hp1 : plI L1 = P) (hp2 : plI L2 = P) (hok : OkItems P 16777216) :
    Calls Tryz.prog 74 #[.slice A1 P.length c1, .slice A2 P.length c2] w fun e w' => e = .returned (.bool true) ∧ Below w.heap.size w w' :=
  l_eqItemS_same w.heap.size A1 A2 _ c1 c2 L1 L2 w (h1.rdP hp1 hok) (h2.rdP hp2 hok) (hp1.trans hp2.symm) (Nat.le_refl _)
end Go.Proofs.YtdddglihomchfaaGreat
