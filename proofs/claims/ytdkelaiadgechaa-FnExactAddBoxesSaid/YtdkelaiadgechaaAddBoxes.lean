/- The contracts of AddBoxes of both packages. -/
import Derived.Test.YtdkelaiadgechaaStep2
import Derived.Test.YtdkelaiadgechaaRows1
import Derived.Deep.DeepCutAuto
import Derived.Deep.RegionHeld3
namespace Go.Proofs.Ytdkelaiadgechaa
open Go.ChangeShapes Go.WideShapes Go.ChangeAt Go.RowKit
set_option linter.unusedVariables false
set_option maxRecDepth 10000

def addAll (d f : Int) (ss : List ByteArray) (n : Nat) : List PBox → List ByteArray × Nat
  | [] => (ss, n)
  | b :: l => if (boxRes 100 d f ss b.F b.L b.T).2 = true then addAll d f (boxRes 100 d f ss b.F b.L b.T).1 (n + 1) l else addAll d f ss n l
def addRes (d f : Int) (ss : List ByteArray) (l : List PBox) : List ByteArray × Int := if cardOk d f ss = true then ((addAll d f ss 0 l).1, ((addAll d f ss 0 l).2 : Int)) else (ss, -1)
theorem addAll_step {d f : Int} {ss : List ByteArray} {n k : Nat} {l : List PBox} (h : k < l.length) : addAll d f ss n (l.drop k) =
    if (boxRes 100 d f ss l[k].F l[k].L l[k].T).2 = true then addAll d f (boxRes 100 d f ss l[k].F l[k].L l[k].T).1 (n + 1) (l.drop (k + 1)) else addAll d f ss n (l.drop (k + 1)) := by
  rw [List.drop_eq_getElem_cons h]; rfl
theorem addAll_ok (d f : Int) (l : List PBox) (m : Nat) : ∀ (ss : List ByteArray) (n : Nat), ss.length ≤ m → (∀ x ∈ ss, x.size ≤ 16777216) → (addAll d f ss n l).1.length ≤ m ∧ ∀ x ∈ (addAll d f ss n l).1, x.size ≤ 16777216 := by
  induction l with
  | nil => intro ss n h1 h2; exact ⟨h1, h2⟩
  | cons b l ih =>
    intro ss n h1 h2
    simp only [addAll]
    split
    · have := boxRes_ok 100 d f ss b.F b.L b.T m h1 h2
      exact ih _ _ this.1 this.2
    · exact ih _ _ h1 h2
theorem boxRes_false {c : UInt8} {d f : Int} {ss : List ByteArray} {F L T : Int} (h : (boxRes c d f ss F L T).2 = false) : (boxRes c d f ss F L T).1 = ss := by
  unfold boxRes at h ⊢
  split
  · rename_i h2; rw [if_pos h2] at h; cases h
  · rfl
theorem blk_other3 {w : World} {g g2 : Nat} {o : Obj} (h : w.heap[g]? = some o) (hne : g ≠ g2) (a b c : Value) : (((w.setCell ⟨g2, 0, none⟩ a).setCell ⟨g2, 1, none⟩ b).setCell ⟨g2, 2, none⟩ c).heap[g]? = some o :=
  (Below.heap_setCell _ _ _ _ hne).trans ((Below.heap_setCell _ _ _ _ hne).trans ((Below.heap_setCell _ _ _ _ hne).trans h))
/-- a card of the call's own, and a number -/
def FreshCardI (base : Nat) (d f : Int) (ss : List ByteArray) (b : Int) (w : World) (e : Ending) (w' : World) : Prop :=
  ∃ A c, e = .returned (.tuple #[.agg #[.int .i64 d, .int .i64 f, .slice A ss.length c], .int .i64 b]) ∧ w'.ownsRow base 9 1 (.slice A ss.length c) ss.length (ss.map Value.string) ∧ Below w.heap.size w w'
theorem freshI {base : Nat} {d f : Int} {ss : List ByteArray} {b : Int} {w w' : World} {N : Nat} {A : Option Addr} {c : Nat} (hN : ss.length = N) (ho : w'.ownsRow base 9 1 (.slice A N c) N (ss.map Value.string)) (hb : Below w.heap.size w w') :
    FreshCardI base d f ss b w (.returned (.tuple #[.agg #[.int .i64 d, .int .i64 f, .slice A N c], .int .i64 b])) w' := by subst hN; exact ⟨A, c, rfl, ho, hb⟩
theorem own_base2 {w : World} {base base' : Nat} {e : TypeId} {size : Nat} {v : Value} {n : Nat} {xs : List Value} (h : w.ownsRow base e size v n xs) (hb : base' ≤ base) : w.ownsRow base' e size v n xs :=
  own_up h (Upper.refl _ _) hb

set_option maxHeartbeats 6000000 in
theorem i_AddBoxes (d f : Int) (B : Nat) (A : Option Addr) (n c : Nat) (ss : List ByteArray) (A2 : Option Addr) (n2 c2 : Nat) (l : List PBox) (w : World) (hS : Strs w B A n ss) (hX : Boxes w B A2 n2 l) (hB : B ≤ w.heap.size) :
    Calls Try.prog 40 #[.agg #[.int .i64 d, .int .i64 f, .slice A n c], .slice A2 n2 c2] w (FreshCardI w.heap.size d f (addRes d f ss l).1 (addRes d f ss l).2 w) := by
  have hn := hS.nb
  have hl := hS.len
  have hn2 := hX.nb
  have hS2 := (hS.alloc hB (.cells #[.int .i64 d, .int .i64 f, .slice A n c] 28)).alloc (by simp; omega) (.cells #[.int .i64 0, .int .i64 0, .slice none 0 0] 28)
  have hX2 := (hX.alloc hB (.cells #[.int .i64 d, .int .i64 f, .slice A n c] 28)).alloc (by simp; omega) (.cells #[.int .i64 0, .int .i64 0, .slice none 0 0] 28)
  have HL := Lib.hid hl
  have HL2 := Lib.hid hX.len
  clear hl
  cases hck : cardOk d f ss
  · have HP := Lib.hid (show addRes d f ss l = (ss, -1) by unfold addRes; rw [if_neg (by rw [hck]; simp)])
    go_enter Try.func40, Try.ntmps40
    go_wp2_with (first | (go_at_call 98; refine (i_CardOk _ _ _ _ _ ss _ (hS2.more (by simp; omega))).mono ?_; rw [hck]; rintro e w1 ⟨rfl, hb1⟩; obtain ⟨hcb, hfb⟩ := bcell hb1; have hz_w1_0 : w.heap.size < w1.heap.size := (by have hzz := hb1.size; (try simp at hzz); omega); have hy_w1_0 := Nat.le_of_lt hz_w1_0; have hz_w1_1 : w.heap.size + 1 < w1.heap.size := (by have hzz := hb1.size; (try simp at hzz); omega); have hy_w1_1 := Nat.le_of_lt hz_w1_1) | (go_at_call 93; refine (i_copied _ _ B _ _ _ ss _ (hS2.below (hb1.mono (by simp; omega))) (by omega)).mono ?_; rintro e w3 ⟨A3, c3, rfl, ho3, hb3⟩; obtain ⟨hcb3, hfb3⟩ := bcell hb3; have hz_w3_0 : w.heap.size < w3.heap.size := (by have hzz := hb3.size; (try simp at hzz); omega); have hy_w3_0 := Nat.le_of_lt hz_w3_0; have hz_w3_1 : w.heap.size + 1 < w3.heap.size := (by have hzz := hb3.size; (try simp at hzz); omega); have hy_w3_1 := Nat.le_of_lt hz_w3_1))
    refine bodyPost_ret (v := .tuple #[.agg #[.int .i64 d, .int .i64 f, .slice A3 ss.length c3], .int .i64 (-1)]) (by simp [results, Try.results40, go_sem, *]) rfl ?_
    rw [HP.out]
    exact ⟨A3, c3, rfl, own_up ho3 (by repeat (first | exact Upper.refl _ _ | refine Upper.drew ?_ | refine Upper.drewN ?_ _ | refine Upper.setCell ?_ (by first | exact Nat.le_refl _ | (simp; done) | omega | (simp; omega) | exact (‹_ ∧ _ ∧ Below _ _ _›).2.2.size) _ | refine Upper.alloc ?_ _ | refine Upper.below ?_ (by assumption))) (by first | exact Nat.le_refl _ | (simp; done) | omega | (simp; omega) | exact (‹_ ∧ _ ∧ Below _ _ _›).2.2.size), (by repeat (first | (with_reducible exact Below.refl _ _) | (with_reducible assumption) | (with_reducible exact (‹_ ∧ _ ∧ Below _ _ _›).2.2) | (with_reducible refine below_drewN ?_ _) | (with_reducible refine Below.drew ?_) | ((with_reducible refine Below.alloc ?_ ?hsd _); (case hsd => (first | exact Nat.le_refl _ | (simp; done) | omega | (simp; omega) | exact (‹_ ∧ _ ∧ Below _ _ _›).2.2.size))) | ((with_reducible refine Below.setCell ?_ ?hsd _); (case hsd => (first | exact Nat.le_refl _ | (simp; done) | omega | (simp; omega) | exact (‹_ ∧ _ ∧ Below _ _ _›).2.2.size))) | ((with_reducible refine Below.trans ?_ (Below.mono (by with_reducible assumption) ?hsd)); (case hsd => (first | exact Nat.le_refl _ | (simp; done) | omega | (simp; omega) | exact (‹_ ∧ _ ∧ Below _ _ _›).2.2.size))) | exact Below.refl _ _ | assumption | exact (‹_ ∧ _ ∧ Below _ _ _›).2.2 | refine below_drewN ?_ _ | refine Below.drew ?_ | refine Below.alloc ?_ (by first | exact Nat.le_refl _ | (simp; done) | omega | (simp; omega) | exact (‹_ ∧ _ ∧ Below _ _ _›).2.2.size) _ | refine Below.setCell ?_ (by first | exact Nat.le_refl _ | (simp; done) | omega | (simp; omega) | exact (‹_ ∧ _ ∧ Below _ _ _›).2.2.size) _ | refine Below.trans ?_ (Below.mono (by assumption) (by first | exact Nat.le_refl _ | (simp; done) | omega | (simp; omega) | exact (‹_ ∧ _ ∧ Below _ _ _›).2.2.size))))⟩
  · have HP := Lib.hid (show addRes d f ss l = ((addAll d f ss 0 l).1, ((addAll d f ss 0 l).2 : Int)) by unfold addRes; rw [if_pos hck])
    go_enter Try.func40, Try.ntmps40
    go_wp2_with (first | (go_at_call 98; refine (i_CardOk _ _ _ _ _ ss _ (hS2.more (by simp; omega))).mono ?_; rw [hck]; rintro e w1 ⟨rfl, hb1⟩; obtain ⟨hcb, hfb⟩ := bcell hb1; have hz_w1_0 : w.heap.size < w1.heap.size := (by have hzz := hb1.size; (try simp at hzz); omega); have hy_w1_0 := Nat.le_of_lt hz_w1_0; have hz_w1_1 : w.heap.size + 1 < w1.heap.size := (by have hzz := hb1.size; (try simp at hzz); omega); have hy_w1_1 := Nat.le_of_lt hz_w1_1) | (go_at_call 93; refine (i_copied _ _ B _ _ _ ss _ (hS2.below (hb1.mono (by simp; omega))) (by omega)).mono ?_; rintro e w3 ⟨A3, c3, rfl, ho3, hb3⟩; obtain ⟨hcb3, hfb3⟩ := bcell hb3; have hz_w3_0 : w.heap.size < w3.heap.size := (by have hzz := hb3.size; (try simp at hzz); omega); have hy_w3_0 := Nat.le_of_lt hz_w3_0; have hz_w3_1 : w.heap.size + 1 < w3.heap.size := (by have hzz := hb3.size; (try simp at hzz); omega); have hy_w3_1 := Nat.le_of_lt hz_w3_1))
    have hX3 := (hX2.below (hb1.mono (by simp; omega))).below (hb3.mono (by omega))
    have hko := blk_new w3 (.cells #[.int .i64 d, .int .i64 f, .slice A3 ss.length c3] 28)
    have hW : ∃ W, W = w3.alloc (.cells #[.int .i64 d, .int .i64 f, .slice A3 ss.length c3] 28) := ⟨_, rfl⟩
    have hbW : Below w.heap.size w (w3.alloc (.cells #[.int .i64 d, .int .i64 f, .slice A3 ss.length c3] 28)) := (by repeat (first | (with_reducible exact Below.refl _ _) | (with_reducible assumption) | (with_reducible exact (‹_ ∧ _ ∧ Below _ _ _›).2.2) | (with_reducible refine below_drewN ?_ _) | (with_reducible refine Below.drew ?_) | ((with_reducible refine Below.alloc ?_ ?hsd _); (case hsd => (first | exact Nat.le_refl _ | (simp; done) | omega | (simp; omega) | exact (‹_ ∧ _ ∧ Below _ _ _›).2.2.size))) | ((with_reducible refine Below.setCell ?_ ?hsd _); (case hsd => (first | exact Nat.le_refl _ | (simp; done) | omega | (simp; omega) | exact (‹_ ∧ _ ∧ Below _ _ _›).2.2.size))) | ((with_reducible refine Below.trans ?_ (Below.mono (by with_reducible assumption) ?hsd)); (case hsd => (first | exact Nat.le_refl _ | (simp; done) | omega | (simp; omega) | exact (‹_ ∧ _ ∧ Below _ _ _›).2.2.size))) | exact Below.refl _ _ | assumption | exact (‹_ ∧ _ ∧ Below _ _ _›).2.2 | refine below_drewN ?_ _ | refine Below.drew ?_ | refine Below.alloc ?_ (by first | exact Nat.le_refl _ | (simp; done) | omega | (simp; omega) | exact (‹_ ∧ _ ∧ Below _ _ _›).2.2.size) _ | refine Below.setCell ?_ (by first | exact Nat.le_refl _ | (simp; done) | omega | (simp; omega) | exact (‹_ ∧ _ ∧ Below _ _ _›).2.2.size) _ | refine Below.trans ?_ (Below.mono (by assumption) (by first | exact Nat.le_refl _ | (simp; done) | omega | (simp; omega) | exact (‹_ ∧ _ ∧ Below _ _ _›).2.2.size))))
    have hoW := own_base2 (base' := w.heap.size) (ho3.alloc (.cells #[.int .i64 d, .int .i64 f, .slice A3 ss.length c3] 28)) (by omega)
    have hXW := hX3.alloc (by omega) (.cells #[.int .i64 d, .int .i64 f, .slice A3 ss.length c3] 28)
    have hkr := blk_alloc (blk_below (blk_below (box_second w (.cells #[.int .i64 d, .int .i64 f, .slice A n c] 28) (.cells #[.int .i64 0, .int .i64 0, .slice none 0 0] 28)) hb1 (by first | (simp; done) | (simp; omega))) hb3 (by omega)) (.cells #[.int .i64 d, .int .i64 f, .slice A3 ss.length c3] 28)
    have hbwW : B ≤ ((w3.alloc (.cells #[.int .i64 d, .int .i64 f, .slice A3 ss.length c3] 28))).heap.size := by first | omega | (simp; omega)
    have hg3 : w.heap.size + 1 < w3.heap.size := by omega
    have hg4 : w3.heap.size < ((w3.alloc (.cells #[.int .i64 d, .int .i64 f, .slice A3 ss.length c3] 28))).heap.size := by first | omega | (simp; done) | (simp; omega)
    generalize (w3.alloc (.cells #[.int .i64 d, .int .i64 f, .slice A3 ss.length c3] 28)) = w5 at *
    have hwB : w.heap.size ≤ w5.heap.size := hbW.size
    have HB0 := hide hS.sb
    go_loopw [7, 21] (fun nn i wr => ∃ (k nk N : Nat) (A' : Option Addr) (c' : Nat) (sk : List ByteArray), k ≤ n2 ∧ nk ≤ k ∧ N ≤ 16777216 ∧ i = .int .i64 k ∧ nn = .int .i64 nk ∧ Hid (sk.length = N) ∧ Hid (addAll d f sk nk (l.drop k) = addAll d f ss 0 l) ∧ Hid (∀ x ∈ sk, x.size ≤ 16777216) ∧
        wr.heap[w3.heap.size]? = some (.cells #[.int .i64 d, .int .i64 f, .slice A' N c'] 28 (0, 0)) ∧ wr.heap[w.heap.size + 1]? = some (.cells #[.int .i64 0, .int .i64 0, .slice none 0 0] 28 (0, 0)) ∧ wr.ownsRow w.heap.size 9 1 (.slice A' N c') N (sk.map Value.string) ∧ w5.heap.size ≤ wr.heap.size ∧ Below w.heap.size w wr) (fun nn i _ => n2 - (intOf i).toNat)
    case atStart => exact ⟨0, 0, ss.length, A3, c3, ss, Nat.zero_le _, Nat.le_refl _, by have := HL.out; omega, rfl, rfl, rfl, rfl, unhide HB0, hko, hkr, hoW, Nat.le_refl _, hbW⟩
    case round =>
      obtain ⟨k, nk, N, A', c', sk, hk, hnk, hN, rfl, rfl, HN, HF, HSB, hblk, hkr2, hown, hzw, hb⟩ := hrel
      by_cases hlt : k < n2
      · obtain ⟨hkl, ad, rfl, hab, hc0, hc1, hc2⟩ := (hX.below (hb.mono hB)).at_ hlt
        have hstep := addAll_step (d := d) (f := f) (ss := sk) (n := nk) (k := k) (l := l) hkl
        have HST := Lib.hid hstep
        clear hstep
        have hbo := boxRes_ok 100 d f sk l[k].F l[k].L l[k].T 16777216 (by have := HN.out; omega) HSB.out
        have HBO := hide hbo
        clear hbo
        obtain ⟨hx0, hx1, hx2, hxl⟩ := blk3 hblk
        obtain ⟨hy0, hy1, hy2, hyl⟩ := blk3 hkr2
        have hSk : Strs wr wr.heap.size A' N sk := strs_of_own hown hN HSB.out
        have hcon := fun (W : World) (h : Strs W wr.heap.size A' N sk) (hz : wr.heap.size ≤ W.heap.size) => i_AddBox d f wr.heap.size A' N c' sk l[k].F l[k].L l[k].T W h hz
        have HCON := hide hcon
        clear hcon
        generalize er : (boxRes 100 d f sk l[k].F l[k].L l[k].T).1 = sr at *
        generalize eb : (boxRes 100 d f sk l[k].F l[k].L l[k].T).2 = br at *
        have hfalse : br = false → sr = sk := fun h => by rw [← er]; exact boxRes_false (by rw [eb]; exact h)
        have HFA := hide hfalse
        clear hfalse er eb
        cases hbr : br
        · subst hbr
          go_wp2_with (first | (go_at_call 24; refine (unhide HCON _ (hSk.alloc (Nat.le_refl _) _) (by simp)).mono ?_; rintro e w7 ⟨A7, c7, rfl, ho7, hb7⟩; have hk7 := blk_next (blk_alloc hblk (.cells #[.int .i64 l[k].F, .int .i64 l[k].L, .int .i64 l[k].T] 32)) hb7; have hr7 := blk_next (blk_alloc hkr2 (.cells #[.int .i64 l[k].F, .int .i64 l[k].L, .int .i64 l[k].T] 32)) hb7; have ho7k := own_below (hown.alloc (.cells #[.int .i64 l[k].F, .int .i64 l[k].L, .int .i64 l[k].T] 32)) hb7; have hz7 := hb7.size; (try simp at hz7); obtain ⟨hv0, hv1, hv2, hvl⟩ := blk3 hk7; have hfv0 := (blk_cells hk7 0).2; have hfv1 := (blk_cells hk7 1).2; have hfv2 := (blk_cells hk7 2).2))
          have hb7w : Below w.heap.size w w7 := (by repeat (first | (with_reducible exact Below.refl _ _) | (with_reducible assumption) | (with_reducible exact (‹_ ∧ _ ∧ Below _ _ _›).2.2) | (with_reducible refine below_drewN ?_ _) | (with_reducible refine Below.drew ?_) | ((with_reducible refine Below.alloc ?_ ?hsd _); (case hsd => (first | exact Nat.le_refl _ | (simp; done) | omega | (simp; omega) | exact (‹_ ∧ _ ∧ Below _ _ _›).2.2.size))) | ((with_reducible refine Below.setCell ?_ ?hsd _); (case hsd => (first | exact Nat.le_refl _ | (simp; done) | omega | (simp; omega) | exact (‹_ ∧ _ ∧ Below _ _ _›).2.2.size))) | ((with_reducible refine Below.trans ?_ (Below.mono (by with_reducible assumption) ?hsd)); (case hsd => (first | exact Nat.le_refl _ | (simp; done) | omega | (simp; omega) | exact (‹_ ∧ _ ∧ Below _ _ _›).2.2.size))) | exact Below.refl _ _ | assumption | exact (‹_ ∧ _ ∧ Below _ _ _›).2.2 | refine below_drewN ?_ _ | refine Below.drew ?_ | refine Below.alloc ?_ (by first | exact Nat.le_refl _ | (simp; done) | omega | (simp; omega) | exact (‹_ ∧ _ ∧ Below _ _ _›).2.2.size) _ | refine Below.setCell ?_ (by first | exact Nat.le_refl _ | (simp; done) | omega | (simp; omega) | exact (‹_ ∧ _ ∧ Below _ _ _›).2.2.size) _ | refine Below.trans ?_ (Below.mono (by assumption) (by first | exact Nat.le_refl _ | (simp; done) | omega | (simp; omega) | exact (‹_ ∧ _ ∧ Below _ _ _›).2.2.size))))
          go_roundw
          case rel => exact ⟨k + 1, nk, N, A', c', sk, by omega, by omega, hN, by go_num, rfl, HN, by unfold Hid; rw [← HF.out, HST.out]; simp, HSB, blk_alloc hk7 _, blk_alloc hr7 _, ho7k.alloc _, by simp; omega, (by repeat (first | (with_reducible exact Below.refl _ _) | (with_reducible assumption) | (with_reducible exact (‹_ ∧ _ ∧ Below _ _ _›).2.2) | (with_reducible refine below_drewN ?_ _) | (with_reducible refine Below.drew ?_) | ((with_reducible refine Below.alloc ?_ ?hsd _); (case hsd => (first | exact Nat.le_refl _ | (simp; done) | omega | (simp; omega) | exact (‹_ ∧ _ ∧ Below _ _ _›).2.2.size))) | ((with_reducible refine Below.setCell ?_ ?hsd _); (case hsd => (first | exact Nat.le_refl _ | (simp; done) | omega | (simp; omega) | exact (‹_ ∧ _ ∧ Below _ _ _›).2.2.size))) | ((with_reducible refine Below.trans ?_ (Below.mono (by with_reducible assumption) ?hsd)); (case hsd => (first | exact Nat.le_refl _ | (simp; done) | omega | (simp; omega) | exact (‹_ ∧ _ ∧ Below _ _ _›).2.2.size))) | exact Below.refl _ _ | assumption | exact (‹_ ∧ _ ∧ Below _ _ _›).2.2 | refine below_drewN ?_ _ | refine Below.drew ?_ | refine Below.alloc ?_ (by first | exact Nat.le_refl _ | (simp; done) | omega | (simp; omega) | exact (‹_ ∧ _ ∧ Below _ _ _›).2.2.size) _ | refine Below.setCell ?_ (by first | exact Nat.le_refl _ | (simp; done) | omega | (simp; omega) | exact (‹_ ∧ _ ∧ Below _ _ _›).2.2.size) _ | refine Below.trans ?_ (Below.mono (by assumption) (by first | exact Nat.le_refl _ | (simp; done) | omega | (simp; omega) | exact (‹_ ∧ _ ∧ Below _ _ _›).2.2.size))))⟩
          case measure => simp [intOf]; omega
        · subst hbr
          go_wp2_with (first | (go_at_call 24; refine (unhide HCON _ (hSk.alloc (Nat.le_refl _) _) (by simp)).mono ?_; rintro e w7 ⟨A7, c7, rfl, ho7, hb7⟩; have hk7 := blk_next (blk_alloc hblk (.cells #[.int .i64 l[k].F, .int .i64 l[k].L, .int .i64 l[k].T] 32)) hb7; have hr7 := blk_next (blk_alloc hkr2 (.cells #[.int .i64 l[k].F, .int .i64 l[k].L, .int .i64 l[k].T] 32)) hb7; have ho7k := own_below (hown.alloc (.cells #[.int .i64 l[k].F, .int .i64 l[k].L, .int .i64 l[k].T] 32)) hb7; have hz7 := hb7.size; (try simp at hz7); obtain ⟨hv0, hv1, hv2, hvl⟩ := blk3 hk7; have hfv0 := (blk_cells hk7 0).2; have hfv1 := (blk_cells hk7 1).2; have hfv2 := (blk_cells hk7 2).2))
          have hb7w : Below w.heap.size w w7 := (by repeat (first | (with_reducible exact Below.refl _ _) | (with_reducible assumption) | (with_reducible exact (‹_ ∧ _ ∧ Below _ _ _›).2.2) | (with_reducible refine below_drewN ?_ _) | (with_reducible refine Below.drew ?_) | ((with_reducible refine Below.alloc ?_ ?hsd _); (case hsd => (first | exact Nat.le_refl _ | (simp; done) | omega | (simp; omega) | exact (‹_ ∧ _ ∧ Below _ _ _›).2.2.size))) | ((with_reducible refine Below.setCell ?_ ?hsd _); (case hsd => (first | exact Nat.le_refl _ | (simp; done) | omega | (simp; omega) | exact (‹_ ∧ _ ∧ Below _ _ _›).2.2.size))) | ((with_reducible refine Below.trans ?_ (Below.mono (by with_reducible assumption) ?hsd)); (case hsd => (first | exact Nat.le_refl _ | (simp; done) | omega | (simp; omega) | exact (‹_ ∧ _ ∧ Below _ _ _›).2.2.size))) | exact Below.refl _ _ | assumption | exact (‹_ ∧ _ ∧ Below _ _ _›).2.2 | refine below_drewN ?_ _ | refine Below.drew ?_ | refine Below.alloc ?_ (by first | exact Nat.le_refl _ | (simp; done) | omega | (simp; omega) | exact (‹_ ∧ _ ∧ Below _ _ _›).2.2.size) _ | refine Below.setCell ?_ (by first | exact Nat.le_refl _ | (simp; done) | omega | (simp; omega) | exact (‹_ ∧ _ ∧ Below _ _ _›).2.2.size) _ | refine Below.trans ?_ (Below.mono (by assumption) (by first | exact Nat.le_refl _ | (simp; done) | omega | (simp; omega) | exact (‹_ ∧ _ ∧ Below _ _ _›).2.2.size))))
          go_roundw
          case rel => exact ⟨k + 1, nk + 1, sr.length, A7, c7, sr, by omega, by omega, (unhide HBO).1, by go_num, by go_num, rfl, by unfold Hid; rw [← HF.out, HST.out]; simp, (unhide HBO).2, blk_alloc (blk3_set hk7 _ _ _) _, blk_alloc (blk_other3 hr7 (by omega) _ _ _) _, (own3_set (own_base2 ho7 (by simp; omega)) hk7 (by decide) _ _ _).alloc _, by simp [World.setCell]; omega, (by repeat (first | (with_reducible exact Below.refl _ _) | (with_reducible assumption) | (with_reducible exact (‹_ ∧ _ ∧ Below _ _ _›).2.2) | (with_reducible refine below_drewN ?_ _) | (with_reducible refine Below.drew ?_) | ((with_reducible refine Below.alloc ?_ ?hsd _); (case hsd => (first | exact Nat.le_refl _ | (simp; done) | omega | (simp; omega) | exact (‹_ ∧ _ ∧ Below _ _ _›).2.2.size))) | ((with_reducible refine Below.setCell ?_ ?hsd _); (case hsd => (first | exact Nat.le_refl _ | (simp; done) | omega | (simp; omega) | exact (‹_ ∧ _ ∧ Below _ _ _›).2.2.size))) | ((with_reducible refine Below.trans ?_ (Below.mono (by with_reducible assumption) ?hsd)); (case hsd => (first | exact Nat.le_refl _ | (simp; done) | omega | (simp; omega) | exact (‹_ ∧ _ ∧ Below _ _ _›).2.2.size))) | exact Below.refl _ _ | assumption | exact (‹_ ∧ _ ∧ Below _ _ _›).2.2 | refine below_drewN ?_ _ | refine Below.drew ?_ | refine Below.alloc ?_ (by first | exact Nat.le_refl _ | (simp; done) | omega | (simp; omega) | exact (‹_ ∧ _ ∧ Below _ _ _›).2.2.size) _ | refine Below.setCell ?_ (by first | exact Nat.le_refl _ | (simp; done) | omega | (simp; omega) | exact (‹_ ∧ _ ∧ Below _ _ _›).2.2.size) _ | refine Below.trans ?_ (Below.mono (by assumption) (by first | exact Nat.le_refl _ | (simp; done) | omega | (simp; omega) | exact (‹_ ∧ _ ∧ Below _ _ _›).2.2.size))))⟩
          case measure => simp [intOf]; omega
      · have hke : k = n2 := by omega
        subst hke
        have hd : l.drop k = [] := List.drop_eq_nil_of_le (by have := HL2.out; omega)
        have hfin : addAll d f ss 0 l = (sk, nk) := by rw [← HF.out, hd]; rfl
        have HFI := Lib.hid hfin
        clear hd hfin
        obtain ⟨hx0, hx1, hx2, hxl⟩ := blk3 hblk
        obtain ⟨hy0, hy1, hy2, hyl⟩ := blk3 hkr2
        have hfy0 := (blk_cells hkr2 0).2
        have hfy1 := (blk_cells hkr2 1).2
        have hfy2 := (blk_cells hkr2 2).2
        go_wp2
        refine bodyPost_ret (v := .tuple #[.agg #[.int .i64 d, .int .i64 f, .slice A' N c'], .int .i64 nk]) (by simp [results, Try.results40, go_sem, *]) rfl ?_
        rw [HP.out, HFI.out]
        exact freshI HN.out (own3_set hown hkr2 (by decide) _ _ _) (by repeat (first | (with_reducible exact Below.refl _ _) | (with_reducible assumption) | (with_reducible exact (‹_ ∧ _ ∧ Below _ _ _›).2.2) | (with_reducible refine below_drewN ?_ _) | (with_reducible refine Below.drew ?_) | ((with_reducible refine Below.alloc ?_ ?hsd _); (case hsd => (first | exact Nat.le_refl _ | (simp; done) | omega | (simp; omega) | exact (‹_ ∧ _ ∧ Below _ _ _›).2.2.size))) | ((with_reducible refine Below.setCell ?_ ?hsd _); (case hsd => (first | exact Nat.le_refl _ | (simp; done) | omega | (simp; omega) | exact (‹_ ∧ _ ∧ Below _ _ _›).2.2.size))) | ((with_reducible refine Below.trans ?_ (Below.mono (by with_reducible assumption) ?hsd)); (case hsd => (first | exact Nat.le_refl _ | (simp; done) | omega | (simp; omega) | exact (‹_ ∧ _ ∧ Below _ _ _›).2.2.size))) | exact Below.refl _ _ | assumption | exact (‹_ ∧ _ ∧ Below _ _ _›).2.2 | refine below_drewN ?_ _ | refine Below.drew ?_ | refine Below.alloc ?_ (by first | exact Nat.le_refl _ | (simp; done) | omega | (simp; omega) | exact (‹_ ∧ _ ∧ Below _ _ _›).2.2.size) _ | refine Below.setCell ?_ (by first | exact Nat.le_refl _ | (simp; done) | omega | (simp; omega) | exact (‹_ ∧ _ ∧ Below _ _ _›).2.2.size) _ | refine Below.trans ?_ (Below.mono (by assumption) (by first | exact Nat.le_refl _ | (simp; done) | omega | (simp; omega) | exact (‹_ ∧ _ ∧ Below _ _ _›).2.2.size))))
set_option maxHeartbeats 6000000 in
theorem s_AddBoxes (d f : Int) (B : Nat) (A : Option Addr) (n c : Nat) (ss : List ByteArray) (A2 : Option Addr) (n2 c2 : Nat) (l : List PBox) (w : World) (hS : Strs w B A n ss) (hX : Boxes w B A2 n2 l) (hB : B ≤ w.heap.size) :
    Calls Try.prog 38 #[.agg #[.int .i64 d, .int .i64 f, .slice A n c], .slice A2 n2 c2] w (FreshCardI w.heap.size d f (addRes d f ss l).1 (addRes d f ss l).2 w) := by
  have hn := hS.nb
  have hl := hS.len
  have hn2 := hX.nb
  have hS2 := (hS.alloc hB (.cells #[.int .i64 d, .int .i64 f, .slice A n c] 28)).alloc (by simp; omega) (.cells #[.int .i64 0, .int .i64 0, .slice none 0 0] 28)
  have hX2 := (hX.alloc hB (.cells #[.int .i64 d, .int .i64 f, .slice A n c] 28)).alloc (by simp; omega) (.cells #[.int .i64 0, .int .i64 0, .slice none 0 0] 28)
  have HL := Lib.hid hl
  have HL2 := Lib.hid hX.len
  clear hl
  cases hck : cardOk d f ss
  · have HP := Lib.hid (show addRes d f ss l = (ss, -1) by unfold addRes; rw [if_neg (by rw [hck]; simp)])
    go_enter Try.func38, Try.ntmps38
    go_wp2_with (first | (go_at_call 74; refine (s_l05Copy _ _ B _ _ _ ss _ hS2 (by simp; omega)).mono ?_; rintro e w3 ⟨A3, c3, rfl, ho3, hb3⟩; obtain ⟨hcb3, hfb3⟩ := bcell hb3; have hz_w3_0 : w.heap.size < w3.heap.size := (by have hzz := hb3.size; (try simp at hzz); omega); have hy_w3_0 := Nat.le_of_lt hz_w3_0; have hz_w3_1 : w.heap.size + 1 < w3.heap.size := (by have hzz := hb3.size; (try simp at hzz); omega); have hy_w3_1 := Nat.le_of_lt hz_w3_1; have hS3 := hS2.below (hb3.mono (by simp; omega))) | (go_at_call 96; refine (s_CardOk _ _ _ _ _ ss _ ((hS3.alloc (by omega) _).more (by simp; omega))).mono ?_; rw [hck]; rintro e w1 ⟨rfl, hb1⟩; obtain ⟨hcb, hfb⟩ := bcell hb1; have hz_w1_0 : w.heap.size < w1.heap.size := (by have hzz := hb1.size; (try simp at hzz); omega); have hy_w1_0 := Nat.le_of_lt hz_w1_0; have hz_w1_1 : w.heap.size + 1 < w1.heap.size := (by have hzz := hb1.size; (try simp at hzz); omega); have hy_w1_1 := Nat.le_of_lt hz_w1_1; (have hw3 : w3.heap.size < w1.heap.size := (by have hq := hb1.size; simp at hq; omega))))
    refine bodyPost_ret (v := .tuple #[.agg #[.int .i64 d, .int .i64 f, .slice A3 ss.length c3], .int .i64 (-1)]) (by simp [results, Try.results38, go_sem, *]) rfl ?_
    rw [HP.out]
    exact ⟨A3, c3, rfl, own_up ho3 (by repeat (first | exact Upper.refl _ _ | refine Upper.drew ?_ | refine Upper.drewN ?_ _ | refine Upper.setCell ?_ (by first | exact Nat.le_refl _ | (simp; done) | omega | (simp; omega) | exact (‹_ ∧ _ ∧ Below _ _ _›).2.2.size) _ | refine Upper.alloc ?_ _ | refine Upper.below ?_ (by assumption))) (by first | exact Nat.le_refl _ | (simp; done) | omega | (simp; omega) | exact (‹_ ∧ _ ∧ Below _ _ _›).2.2.size), (by repeat (first | (with_reducible exact Below.refl _ _) | (with_reducible assumption) | (with_reducible exact (‹_ ∧ _ ∧ Below _ _ _›).2.2) | (with_reducible refine below_drewN ?_ _) | (with_reducible refine Below.drew ?_) | ((with_reducible refine Below.alloc ?_ ?hsd _); (case hsd => (first | exact Nat.le_refl _ | (simp; done) | omega | (simp; omega) | exact (‹_ ∧ _ ∧ Below _ _ _›).2.2.size))) | ((with_reducible refine Below.setCell ?_ ?hsd _); (case hsd => (first | exact Nat.le_refl _ | (simp; done) | omega | (simp; omega) | exact (‹_ ∧ _ ∧ Below _ _ _›).2.2.size))) | ((with_reducible refine Below.trans ?_ (Below.mono (by with_reducible assumption) ?hsd)); (case hsd => (first | exact Nat.le_refl _ | (simp; done) | omega | (simp; omega) | exact (‹_ ∧ _ ∧ Below _ _ _›).2.2.size))) | exact Below.refl _ _ | assumption | exact (‹_ ∧ _ ∧ Below _ _ _›).2.2 | refine below_drewN ?_ _ | refine Below.drew ?_ | refine Below.alloc ?_ (by first | exact Nat.le_refl _ | (simp; done) | omega | (simp; omega) | exact (‹_ ∧ _ ∧ Below _ _ _›).2.2.size) _ | refine Below.setCell ?_ (by first | exact Nat.le_refl _ | (simp; done) | omega | (simp; omega) | exact (‹_ ∧ _ ∧ Below _ _ _›).2.2.size) _ | refine Below.trans ?_ (Below.mono (by assumption) (by first | exact Nat.le_refl _ | (simp; done) | omega | (simp; omega) | exact (‹_ ∧ _ ∧ Below _ _ _›).2.2.size))))⟩
  · have HP := Lib.hid (show addRes d f ss l = ((addAll d f ss 0 l).1, ((addAll d f ss 0 l).2 : Int)) by unfold addRes; rw [if_pos hck])
    go_enter Try.func38, Try.ntmps38
    go_wp2_with (first | (go_at_call 74; refine (s_l05Copy _ _ B _ _ _ ss _ hS2 (by simp; omega)).mono ?_; rintro e w3 ⟨A3, c3, rfl, ho3, hb3⟩; obtain ⟨hcb3, hfb3⟩ := bcell hb3; have hz_w3_0 : w.heap.size < w3.heap.size := (by have hzz := hb3.size; (try simp at hzz); omega); have hy_w3_0 := Nat.le_of_lt hz_w3_0; have hz_w3_1 : w.heap.size + 1 < w3.heap.size := (by have hzz := hb3.size; (try simp at hzz); omega); have hy_w3_1 := Nat.le_of_lt hz_w3_1; have hS3 := hS2.below (hb3.mono (by simp; omega))) | (go_at_call 96; refine (s_CardOk _ _ _ _ _ ss _ ((hS3.alloc (by omega) _).more (by simp; omega))).mono ?_; rw [hck]; rintro e w1 ⟨rfl, hb1⟩; obtain ⟨hcb, hfb⟩ := bcell hb1; have hz_w1_0 : w.heap.size < w1.heap.size := (by have hzz := hb1.size; (try simp at hzz); omega); have hy_w1_0 := Nat.le_of_lt hz_w1_0; have hz_w1_1 : w.heap.size + 1 < w1.heap.size := (by have hzz := hb1.size; (try simp at hzz); omega); have hy_w1_1 := Nat.le_of_lt hz_w1_1; (have hw3 : w3.heap.size < w1.heap.size := (by have hq := hb1.size; simp at hq; omega))))
    have hX3 := ((hX2.below (hb3.mono (by simp; omega))).alloc (by omega) (.cells #[.int .i64 d, .int .i64 f, .slice A3 ss.length c3] 28)).below (hb1.mono (by simp; omega))
    have hko := blk_next (blk_new w3 (.cells #[.int .i64 d, .int .i64 f, .slice A3 ss.length c3] 28)) hb1
    have hbW : Below w.heap.size w w1 := (by repeat (first | (with_reducible exact Below.refl _ _) | (with_reducible assumption) | (with_reducible exact (‹_ ∧ _ ∧ Below _ _ _›).2.2) | (with_reducible refine below_drewN ?_ _) | (with_reducible refine Below.drew ?_) | ((with_reducible refine Below.alloc ?_ ?hsd _); (case hsd => (first | exact Nat.le_refl _ | (simp; done) | omega | (simp; omega) | exact (‹_ ∧ _ ∧ Below _ _ _›).2.2.size))) | ((with_reducible refine Below.setCell ?_ ?hsd _); (case hsd => (first | exact Nat.le_refl _ | (simp; done) | omega | (simp; omega) | exact (‹_ ∧ _ ∧ Below _ _ _›).2.2.size))) | ((with_reducible refine Below.trans ?_ (Below.mono (by with_reducible assumption) ?hsd)); (case hsd => (first | exact Nat.le_refl _ | (simp; done) | omega | (simp; omega) | exact (‹_ ∧ _ ∧ Below _ _ _›).2.2.size))) | exact Below.refl _ _ | assumption | exact (‹_ ∧ _ ∧ Below _ _ _›).2.2 | refine below_drewN ?_ _ | refine Below.drew ?_ | refine Below.alloc ?_ (by first | exact Nat.le_refl _ | (simp; done) | omega | (simp; omega) | exact (‹_ ∧ _ ∧ Below _ _ _›).2.2.size) _ | refine Below.setCell ?_ (by first | exact Nat.le_refl _ | (simp; done) | omega | (simp; omega) | exact (‹_ ∧ _ ∧ Below _ _ _›).2.2.size) _ | refine Below.trans ?_ (Below.mono (by assumption) (by first | exact Nat.le_refl _ | (simp; done) | omega | (simp; omega) | exact (‹_ ∧ _ ∧ Below _ _ _›).2.2.size))))
    have hoW := own_base2 (base' := w.heap.size) (own_below (ho3.alloc (.cells #[.int .i64 d, .int .i64 f, .slice A3 ss.length c3] 28)) hb1) (by first | omega | (simp; done) | (simp; omega))
    have hXW := hX3
    have hkr := blk_below (blk_alloc (blk_below (box_second w (.cells #[.int .i64 d, .int .i64 f, .slice A n c] 28) (.cells #[.int .i64 0, .int .i64 0, .slice none 0 0] 28)) hb3 (by first | (simp; done) | (simp; omega))) (.cells #[.int .i64 d, .int .i64 f, .slice A3 ss.length c3] 28)) hb1 (by simp; omega)
    have hbwW : B ≤ (w1).heap.size := by first | omega | (simp; omega)
    have hg3 : w.heap.size + 1 < w3.heap.size := by omega
    have hg4 : w3.heap.size < (w1).heap.size := by first | omega | (simp; done) | (simp; omega)
    generalize w1 = w5 at *
    have hwB : w.heap.size ≤ w5.heap.size := hbW.size
    have HB0 := hide hS.sb
    go_loopw [7, 8] (fun nn i wr => ∃ (k nk N : Nat) (A' : Option Addr) (c' : Nat) (sk : List ByteArray), k ≤ n2 ∧ nk ≤ k ∧ N ≤ 16777216 ∧ i = .int .i64 k ∧ nn = .int .i64 nk ∧ Hid (sk.length = N) ∧ Hid (addAll d f sk nk (l.drop k) = addAll d f ss 0 l) ∧ Hid (∀ x ∈ sk, x.size ≤ 16777216) ∧
        wr.heap[w3.heap.size]? = some (.cells #[.int .i64 d, .int .i64 f, .slice A' N c'] 28 (0, 0)) ∧ wr.heap[w.heap.size + 1]? = some (.cells #[.int .i64 0, .int .i64 0, .slice none 0 0] 28 (0, 0)) ∧ wr.ownsRow w.heap.size 9 1 (.slice A' N c') N (sk.map Value.string) ∧ w5.heap.size ≤ wr.heap.size ∧ Below w.heap.size w wr) (fun nn i _ => n2 - (intOf i).toNat)
    case atStart => exact ⟨0, 0, ss.length, A3, c3, ss, Nat.zero_le _, Nat.le_refl _, by have := HL.out; omega, rfl, rfl, rfl, rfl, unhide HB0, hko, hkr, hoW, Nat.le_refl _, hbW⟩
    case round =>
      obtain ⟨k, nk, N, A', c', sk, hk, hnk, hN, rfl, rfl, HN, HF, HSB, hblk, hkr2, hown, hzw, hb⟩ := hrel
      by_cases hlt : k < n2
      · obtain ⟨hkl, ad, rfl, hab, hc0, hc1, hc2⟩ := (hX.below (hb.mono hB)).at_ hlt
        have hstep := addAll_step (d := d) (f := f) (ss := sk) (n := nk) (k := k) (l := l) hkl
        have HST := Lib.hid hstep
        clear hstep
        have hbo := boxRes_ok 100 d f sk l[k].F l[k].L l[k].T 16777216 (by have := HN.out; omega) HSB.out
        have HBO := hide hbo
        clear hbo
        obtain ⟨hx0, hx1, hx2, hxl⟩ := blk3 hblk
        obtain ⟨hy0, hy1, hy2, hyl⟩ := blk3 hkr2
        have hSk : Strs wr wr.heap.size A' N sk := strs_of_own hown hN HSB.out
        have hcon := fun (W : World) (h : Strs W wr.heap.size A' N sk) (hz : wr.heap.size ≤ W.heap.size) => s_AddBox d f wr.heap.size A' N c' sk l[k].F l[k].L l[k].T W h hz
        have HCON := hide hcon
        clear hcon
        generalize er : (boxRes 100 d f sk l[k].F l[k].L l[k].T).1 = sr at *
        generalize eb : (boxRes 100 d f sk l[k].F l[k].L l[k].T).2 = br at *
        have hfalse : br = false → sr = sk := fun h => by rw [← er]; exact boxRes_false (by rw [eb]; exact h)
        have HFA := hide hfalse
        clear hfalse er eb
        cases hbr : br
        · subst hbr
          go_upto_region 8 with fail
          go_cut [9, 10] (fun s9 s10 wx => ∃ (g9 : Nat) (A7 : Option Addr) (c7 : Nat), s9 = .pointer (some ⟨g9, 0, none⟩) ∧ s10 = .bool false ∧ wx.heap[g9]? = some (.cells #[.int .i64 d, .int .i64 f, .slice A7 sr.length c7] 28 (0, 0)) ∧ wx.ownsRow wr.heap.size 9 1 (.slice A7 sr.length c7) sr.length (sr.map Value.string) ∧ wr.heap.size ≤ g9 ∧ Below wr.heap.size wr wx)
          case first =>
            have hq1 : (ad.add (k * 3)).block < wr.heap.size := by rw [block_of_add]; omega
            go_region_held3 (fun W => (∀ p : Addr, p.block < wr.heap.size → W.cell? p = (wr).cell? p) ∧ (∀ p : Addr, p.block < wr.heap.size → W.frozen? p = (wr).frozen? p) ∧ Below (wr.heap.size) (wr) W) (exact keep_ofP (by repeat (first | (with_reducible exact Below.refl _ _) | (with_reducible assumption) | (with_reducible exact (‹_ ∧ _ ∧ Below _ _ _›).2.2) | (with_reducible refine below_drewN ?_ _) | (with_reducible refine Below.drew ?_) | ((with_reducible refine Below.alloc ?_ ?hsd _); (case hsd => (first | exact Nat.le_refl _ | (simp; done) | omega | (simp; omega) | exact (‹_ ∧ _ ∧ Below _ _ _›).2.2.size))) | ((with_reducible refine Below.setCell ?_ ?hsd _); (case hsd => (first | exact Nat.le_refl _ | (simp; done) | omega | (simp; omega) | exact (‹_ ∧ _ ∧ Below _ _ _›).2.2.size))) | ((with_reducible refine Below.trans ?_ (Below.mono (by with_reducible assumption) ?hsd)); (case hsd => (first | exact Nat.le_refl _ | (simp; done) | omega | (simp; omega) | exact (‹_ ∧ _ ∧ Below _ _ _›).2.2.size))) | exact Below.refl _ _ | assumption | exact (‹_ ∧ _ ∧ Below _ _ _›).2.2 | refine below_drewN ?_ _ | refine Below.drew ?_ | refine Below.alloc ?_ (by first | exact Nat.le_refl _ | (simp; done) | omega | (simp; omega) | exact (‹_ ∧ _ ∧ Below _ _ _›).2.2.size) _ | refine Below.setCell ?_ (by first | exact Nat.le_refl _ | (simp; done) | omega | (simp; omega) | exact (‹_ ∧ _ ∧ Below _ _ _›).2.2.size) _ | refine Below.trans ?_ (Below.mono (by assumption) (by first | exact Nat.le_refl _ | (simp; done) | omega | (simp; omega) | exact (‹_ ∧ _ ∧ Below _ _ _›).2.2.size))))) ((go_at_call 23; have hq := (‹_ ∧ _ ∧ Below _ _ _›).2.2; refine (unhide HCON _ (hSk.below hq) hq.size).mono ?_; rintro e w7 ⟨A7, c7, rfl, ho7r, hb7⟩; (have ho7 := own_base2 (base' := wr.heap.size) ho7r (by first | exact hq.size | exact Nat.le_refl _)); clear ho7r; have hqs := hq.size; have hbs := hb7.size; (try simp at hqs); (try simp at hbs); obtain ⟨hcb7, hfb7⟩ := bcell hb7; (try (have hzl : wr.heap.size < w7.heap.size := (by omega)))))
            all_goals (go_wp2_with fail)
            all_goals (go_meet)
            all_goals (
              refine ⟨_, A7, c7, rfl, rfl, ?_, ?_, ?_, ?_⟩
              first
                | exact blk_new _ _
                | exact blk3_set (by first | exact blk_next (blk_new _ _) hb7 | exact blk_next (blk_drew (blk_new _ _)) hb7) _ _ _
              first
                | exact ho7.alloc _
                | exact own3_set ho7 (by first | exact blk_next (blk_new _ _) hb7 | exact blk_next (blk_drew (blk_new _ _)) hb7) (by decide) _ _ _
              first
                | exact Nat.le_refl _
                | omega
              exact (by repeat (first | (with_reducible exact Below.refl _ _) | (with_reducible assumption) | (with_reducible exact (‹_ ∧ _ ∧ Below _ _ _›).2.2) | (with_reducible refine below_drewN ?_ _) | (with_reducible refine Below.drew ?_) | ((with_reducible refine Below.alloc ?_ ?hsd _); (case hsd => (first | exact Nat.le_refl _ | (simp; done) | omega | (simp; omega) | exact (‹_ ∧ _ ∧ Below _ _ _›).2.2.size))) | ((with_reducible refine Below.setCell ?_ ?hsd _); (case hsd => (first | exact Nat.le_refl _ | (simp; done) | omega | (simp; omega) | exact (‹_ ∧ _ ∧ Below _ _ _›).2.2.size))) | ((with_reducible refine Below.trans ?_ (Below.mono (by with_reducible assumption) ?hsd)); (case hsd => (first | exact Nat.le_refl _ | (simp; done) | omega | (simp; omega) | exact (‹_ ∧ _ ∧ Below _ _ _›).2.2.size))) | exact Below.refl _ _ | assumption | exact (‹_ ∧ _ ∧ Below _ _ _›).2.2 | refine below_drewN ?_ _ | refine Below.drew ?_ | refine Below.alloc ?_ (by first | exact Nat.le_refl _ | (simp; done) | omega | (simp; omega) | exact (‹_ ∧ _ ∧ Below _ _ _›).2.2.size) _ | refine Below.setCell ?_ (by first | exact Nat.le_refl _ | (simp; done) | omega | (simp; omega) | exact (‹_ ∧ _ ∧ Below _ _ _›).2.2.size) _ | refine Below.trans ?_ (Below.mono (by assumption) (by first | exact Nat.le_refl _ | (simp; done) | omega | (simp; omega) | exact (‹_ ∧ _ ∧ Below _ _ _›).2.2.size)))))
          obtain ⟨g9, A7, c7, rfl, rfl, hk9, ho9, hg9, hb9⟩ := hcut
          obtain ⟨w7, hwc⟩ : ∃ W, W = wc := ⟨_, rfl⟩
          subst hwc
          have hk7 := blk_next hblk hb9
          have hr7 := blk_next hkr2 hb9
          have ho7k := own_below hown hb9
          have hz7 := hb9.size
          obtain ⟨hv0, hv1, hv2, hvl⟩ := blk3 hk7
          have hfv0 := (blk_cells hk7 0).2
          have hfv1 := (blk_cells hk7 1).2
          have hfv2 := (blk_cells hk7 2).2
          obtain ⟨hg0, hg1, hg2, hgl⟩ := blk3 hk9
          have hb7w : Below w.heap.size w w7 := hb.trans (hb9.mono (by omega))
          clear hx0 hx1 hx2 hxl hy0 hy1 hy2 hyl
          go_wp2
          go_roundw
          case rel => exact ⟨k + 1, nk, N, A', c', sk, by omega, by omega, hN, by go_num, rfl, HN, by unfold Hid; rw [← HF.out, HST.out]; simp, HSB, hk7, hr7, ho7k, by omega, hb7w⟩
          case measure => simp [intOf]; omega
        · subst hbr
          go_upto_region 8 with fail
          go_cut [9, 10] (fun s9 s10 wx => ∃ (g9 : Nat) (A7 : Option Addr) (c7 : Nat), s9 = .pointer (some ⟨g9, 0, none⟩) ∧ s10 = .bool true ∧ wx.heap[g9]? = some (.cells #[.int .i64 d, .int .i64 f, .slice A7 sr.length c7] 28 (0, 0)) ∧ wx.ownsRow wr.heap.size 9 1 (.slice A7 sr.length c7) sr.length (sr.map Value.string) ∧ wr.heap.size ≤ g9 ∧ Below wr.heap.size wr wx)
          case first =>
            have hq1 : (ad.add (k * 3)).block < wr.heap.size := by rw [block_of_add]; omega
            go_region_held3 (fun W => (∀ p : Addr, p.block < wr.heap.size → W.cell? p = (wr).cell? p) ∧ (∀ p : Addr, p.block < wr.heap.size → W.frozen? p = (wr).frozen? p) ∧ Below (wr.heap.size) (wr) W) (exact keep_ofP (by repeat (first | (with_reducible exact Below.refl _ _) | (with_reducible assumption) | (with_reducible exact (‹_ ∧ _ ∧ Below _ _ _›).2.2) | (with_reducible refine below_drewN ?_ _) | (with_reducible refine Below.drew ?_) | ((with_reducible refine Below.alloc ?_ ?hsd _); (case hsd => (first | exact Nat.le_refl _ | (simp; done) | omega | (simp; omega) | exact (‹_ ∧ _ ∧ Below _ _ _›).2.2.size))) | ((with_reducible refine Below.setCell ?_ ?hsd _); (case hsd => (first | exact Nat.le_refl _ | (simp; done) | omega | (simp; omega) | exact (‹_ ∧ _ ∧ Below _ _ _›).2.2.size))) | ((with_reducible refine Below.trans ?_ (Below.mono (by with_reducible assumption) ?hsd)); (case hsd => (first | exact Nat.le_refl _ | (simp; done) | omega | (simp; omega) | exact (‹_ ∧ _ ∧ Below _ _ _›).2.2.size))) | exact Below.refl _ _ | assumption | exact (‹_ ∧ _ ∧ Below _ _ _›).2.2 | refine below_drewN ?_ _ | refine Below.drew ?_ | refine Below.alloc ?_ (by first | exact Nat.le_refl _ | (simp; done) | omega | (simp; omega) | exact (‹_ ∧ _ ∧ Below _ _ _›).2.2.size) _ | refine Below.setCell ?_ (by first | exact Nat.le_refl _ | (simp; done) | omega | (simp; omega) | exact (‹_ ∧ _ ∧ Below _ _ _›).2.2.size) _ | refine Below.trans ?_ (Below.mono (by assumption) (by first | exact Nat.le_refl _ | (simp; done) | omega | (simp; omega) | exact (‹_ ∧ _ ∧ Below _ _ _›).2.2.size))))) ((go_at_call 23; have hq := (‹_ ∧ _ ∧ Below _ _ _›).2.2; refine (unhide HCON _ (hSk.below hq) hq.size).mono ?_; rintro e w7 ⟨A7, c7, rfl, ho7r, hb7⟩; (have ho7 := own_base2 (base' := wr.heap.size) ho7r (by first | exact hq.size | exact Nat.le_refl _)); clear ho7r; have hqs := hq.size; have hbs := hb7.size; (try simp at hqs); (try simp at hbs); obtain ⟨hcb7, hfb7⟩ := bcell hb7; (try (have hzl : wr.heap.size < w7.heap.size := (by omega)))))
            all_goals (go_wp2_with fail)
            all_goals (go_meet)
            all_goals (
              refine ⟨_, A7, c7, rfl, rfl, ?_, ?_, ?_, ?_⟩
              first
                | exact blk_new _ _
                | exact blk3_set (by first | exact blk_next (blk_new _ _) hb7 | exact blk_next (blk_drew (blk_new _ _)) hb7) _ _ _
              first
                | exact ho7.alloc _
                | exact own3_set ho7 (by first | exact blk_next (blk_new _ _) hb7 | exact blk_next (blk_drew (blk_new _ _)) hb7) (by decide) _ _ _
              first
                | exact Nat.le_refl _
                | omega
              exact (by repeat (first | (with_reducible exact Below.refl _ _) | (with_reducible assumption) | (with_reducible exact (‹_ ∧ _ ∧ Below _ _ _›).2.2) | (with_reducible refine below_drewN ?_ _) | (with_reducible refine Below.drew ?_) | ((with_reducible refine Below.alloc ?_ ?hsd _); (case hsd => (first | exact Nat.le_refl _ | (simp; done) | omega | (simp; omega) | exact (‹_ ∧ _ ∧ Below _ _ _›).2.2.size))) | ((with_reducible refine Below.setCell ?_ ?hsd _); (case hsd => (first | exact Nat.le_refl _ | (simp; done) | omega | (simp; omega) | exact (‹_ ∧ _ ∧ Below _ _ _›).2.2.size))) | ((with_reducible refine Below.trans ?_ (Below.mono (by with_reducible assumption) ?hsd)); (case hsd => (first | exact Nat.le_refl _ | (simp; done) | omega | (simp; omega) | exact (‹_ ∧ _ ∧ Below _ _ _›).2.2.size))) | exact Below.refl _ _ | assumption | exact (‹_ ∧ _ ∧ Below _ _ _›).2.2 | refine below_drewN ?_ _ | refine Below.drew ?_ | refine Below.alloc ?_ (by first | exact Nat.le_refl _ | (simp; done) | omega | (simp; omega) | exact (‹_ ∧ _ ∧ Below _ _ _›).2.2.size) _ | refine Below.setCell ?_ (by first | exact Nat.le_refl _ | (simp; done) | omega | (simp; omega) | exact (‹_ ∧ _ ∧ Below _ _ _›).2.2.size) _ | refine Below.trans ?_ (Below.mono (by assumption) (by first | exact Nat.le_refl _ | (simp; done) | omega | (simp; omega) | exact (‹_ ∧ _ ∧ Below _ _ _›).2.2.size)))))
          obtain ⟨g9, A7, c7, rfl, rfl, hk9, ho9, hg9, hb9⟩ := hcut
          obtain ⟨w7, hwc⟩ : ∃ W, W = wc := ⟨_, rfl⟩
          subst hwc
          have hk7 := blk_next hblk hb9
          have hr7 := blk_next hkr2 hb9
          have ho7k := own_below hown hb9
          have hz7 := hb9.size
          obtain ⟨hv0, hv1, hv2, hvl⟩ := blk3 hk7
          have hfv0 := (blk_cells hk7 0).2
          have hfv1 := (blk_cells hk7 1).2
          have hfv2 := (blk_cells hk7 2).2
          obtain ⟨hg0, hg1, hg2, hgl⟩ := blk3 hk9
          have hb7w : Below w.heap.size w w7 := hb.trans (hb9.mono (by omega))
          clear hx0 hx1 hx2 hxl hy0 hy1 hy2 hyl
          go_wp2
          go_roundw
          case rel => exact ⟨k + 1, nk + 1, sr.length, A7, c7, sr, by omega, by omega, (unhide HBO).1, by go_num, by go_num, rfl, by unfold Hid; rw [← HF.out, HST.out]; simp, (unhide HBO).2, blk3_set hk7 _ _ _, blk_other3 hr7 (by omega) _ _ _, own3_set (own_base2 ho9 (by omega)) hk7 (by decide) _ _ _, by simp [World.setCell]; omega, (by repeat (first | (with_reducible exact Below.refl _ _) | (with_reducible assumption) | (with_reducible exact (‹_ ∧ _ ∧ Below _ _ _›).2.2) | (with_reducible refine below_drewN ?_ _) | (with_reducible refine Below.drew ?_) | ((with_reducible refine Below.alloc ?_ ?hsd _); (case hsd => (first | exact Nat.le_refl _ | (simp; done) | omega | (simp; omega) | exact (‹_ ∧ _ ∧ Below _ _ _›).2.2.size))) | ((with_reducible refine Below.setCell ?_ ?hsd _); (case hsd => (first | exact Nat.le_refl _ | (simp; done) | omega | (simp; omega) | exact (‹_ ∧ _ ∧ Below _ _ _›).2.2.size))) | ((with_reducible refine Below.trans ?_ (Below.mono (by with_reducible assumption) ?hsd)); (case hsd => (first | exact Nat.le_refl _ | (simp; done) | omega | (simp; omega) | exact (‹_ ∧ _ ∧ Below _ _ _›).2.2.size))) | exact Below.refl _ _ | assumption | exact (‹_ ∧ _ ∧ Below _ _ _›).2.2 | refine below_drewN ?_ _ | refine Below.drew ?_ | refine Below.alloc ?_ (by first | exact Nat.le_refl _ | (simp; done) | omega | (simp; omega) | exact (‹_ ∧ _ ∧ Below _ _ _›).2.2.size) _ | refine Below.setCell ?_ (by first | exact Nat.le_refl _ | (simp; done) | omega | (simp; omega) | exact (‹_ ∧ _ ∧ Below _ _ _›).2.2.size) _ | refine Below.trans ?_ (Below.mono (by assumption) (by first | exact Nat.le_refl _ | (simp; done) | omega | (simp; omega) | exact (‹_ ∧ _ ∧ Below _ _ _›).2.2.size))))⟩
          case measure => simp [intOf]; omega
      · have hke : k = n2 := by omega
        subst hke
        have hd : l.drop k = [] := List.drop_eq_nil_of_le (by have := HL2.out; omega)
        have hfin : addAll d f ss 0 l = (sk, nk) := by rw [← HF.out, hd]; rfl
        have HFI := Lib.hid hfin
        clear hd hfin
        obtain ⟨hx0, hx1, hx2, hxl⟩ := blk3 hblk
        obtain ⟨hy0, hy1, hy2, hyl⟩ := blk3 hkr2
        have hfy0 := (blk_cells hkr2 0).2
        have hfy1 := (blk_cells hkr2 1).2
        have hfy2 := (blk_cells hkr2 2).2
        go_wp2
        refine bodyPost_ret (v := .tuple #[.agg #[.int .i64 d, .int .i64 f, .slice A' N c'], .int .i64 nk]) (by simp [results, Try.results38, go_sem, *]) rfl ?_
        rw [HP.out, HFI.out]
        exact freshI HN.out (own3_set hown hkr2 (by decide) _ _ _) (by repeat (first | (with_reducible exact Below.refl _ _) | (with_reducible assumption) | (with_reducible exact (‹_ ∧ _ ∧ Below _ _ _›).2.2) | (with_reducible refine below_drewN ?_ _) | (with_reducible refine Below.drew ?_) | ((with_reducible refine Below.alloc ?_ ?hsd _); (case hsd => (first | exact Nat.le_refl _ | (simp; done) | omega | (simp; omega) | exact (‹_ ∧ _ ∧ Below _ _ _›).2.2.size))) | ((with_reducible refine Below.setCell ?_ ?hsd _); (case hsd => (first | exact Nat.le_refl _ | (simp; done) | omega | (simp; omega) | exact (‹_ ∧ _ ∧ Below _ _ _›).2.2.size))) | ((with_reducible refine Below.trans ?_ (Below.mono (by with_reducible assumption) ?hsd)); (case hsd => (first | exact Nat.le_refl _ | (simp; done) | omega | (simp; omega) | exact (‹_ ∧ _ ∧ Below _ _ _›).2.2.size))) | exact Below.refl _ _ | assumption | exact (‹_ ∧ _ ∧ Below _ _ _›).2.2 | refine below_drewN ?_ _ | refine Below.drew ?_ | refine Below.alloc ?_ (by first | exact Nat.le_refl _ | (simp; done) | omega | (simp; omega) | exact (‹_ ∧ _ ∧ Below _ _ _›).2.2.size) _ | refine Below.setCell ?_ (by first | exact Nat.le_refl _ | (simp; done) | omega | (simp; omega) | exact (‹_ ∧ _ ∧ Below _ _ _›).2.2.size) _ | refine Below.trans ?_ (Below.mono (by assumption) (by first | exact Nat.le_refl _ | (simp; done) | omega | (simp; omega) | exact (‹_ ∧ _ ∧ Below _ _ _›).2.2.size))))
end Go.Proofs.Ytdkelaiadgechaa
