/- Contracts of the program's and the reference's functions (AddBoxes, BoxQ). -/
import Derived.Deep.DeepCutAuto
import Derived.Deep.RegionHeld3
import Derived.Test.YtccjedongkokoaaRows
import Derived.Test.YtccjedongkokoaaQXe
import Derived.Test.YtccjedongkokoaaQXb
import Derived.Test.YtccjedongkokoaaQXaa
import Derived.Test.YtccjedongkokoaaQXd
import Derived.Test.YtccjedongkokoaaQXu
namespace Go.Proofs.Ytccjedongkokoaa
open Go.ChangeShapes Go.WideShapes Go.ChangeAt Go.RowKit
set_option linter.unusedVariables false
set_option maxRecDepth 10000
def addAll (d f : Int) (ss : List ByteArray) (n : Nat) : List PBox → List ByteArray × Nat
  | [] => (ss, n)
  | b :: l => if (boxRes 100 d f ss b.F b.L b.T).2 = true then addAll d f (boxRes 100 d f ss b.F b.L b.T).1 (n + 1) l else addAll d f ss n l
def addRes (d f : Int) (ss : List ByteArray) (l : List PBox) : List ByteArray × Int := if cardOk d f ss = true then ((addAll d f ss 0 l).1, ((addAll d f ss 0 l).2 : Int)) else (ss, -1)
theorem addAll_step {d f : Int} {ss : List ByteArray} {n k : Nat} {l : List PBox} (h : k < l.length) : addAll d f ss n (l.drop k) =
    if (boxRes 100 d f ss l[k].F l[k].L l[k].T).2 = true then addAll d f (boxRes 100 d f ss l[k].F l[k].L l[k].T).1 (n + 1) (l.drop (k + 1)) else addAll d f ss n (l.drop (k + 1)) := by
  rw [List.drop_eq_getElem_cons h]; rfl
theorem boxRes_false {c : UInt8} {d f : Int} {ss : List ByteArray} {F L T : Int} (h : (boxRes c d f ss F L T).2 = false) : (boxRes c d f ss F L T).1 = ss := by
  unfold boxRes at h ⊢
  split
  · rename_i h2; rw [if_pos h2] at h; cases h
  · rfl
theorem blk_other3 {w : World} {g g2 : Nat} {o : Obj} (h : w.heap[g]? = some o) (hne : g ≠ g2) (a b c : Value) : (((w.setCell ⟨g2, 0, none⟩ a).setCell ⟨g2, 1, none⟩ b).setCell ⟨g2, 2, none⟩ c).heap[g]? = some o :=
  (Below.heap_setCell _ _ _ _ hne).trans ((Below.heap_setCell _ _ _ _ hne).trans ((Below.heap_setCell _ _ _ _ hne).trans h))
def FreshCardI (base : Nat) (d f : Int) (ss : List ByteArray) (b : Int) (w : World) (e : Ending) (w' : World) : Prop :=
  ∃ A c, e = .returned (.tuple #[.agg #[.int .i64 d, .int .i64 f, .slice A ss.length c], .int .i64 b]) ∧ w'.ownsRow base 9 1 (.slice A ss.length c) ss.length (ss.map Value.string) ∧ Below w.heap.size w w'
theorem freshI {base : Nat} {d f : Int} {ss : List ByteArray} {b : Int} {w w' : World} {N : Nat} {A : Option Addr} {c : Nat} (hN : ss.length = N) (ho : w'.ownsRow base 9 1 (.slice A N c) N (ss.map Value.string)) (hb : Below w.heap.size w w') :
    FreshCardI base d f ss b w (.returned (.tuple #[.agg #[.int .i64 d, .int .i64 f, .slice A N c], .int .i64 b])) w' := by subst hN; exact ⟨A, c, rfl, ho, hb⟩
theorem own_base2 {w : World} {base base' : Nat} {e : TypeId} {size : Nat} {v : Value} {n : Nat} {xs : List Value} (h : w.ownsRow base e size v n xs) (hb : base' ≤ base) : w.ownsRow base' e size v n xs :=
  own_up h (Upper.refl _ _) hb
set_option maxHeartbeats 6000000 in
theorem i_AddBoxes (d f : Int) (B : Nat) (A : Option Addr) (n c : Nat) (ss : List ByteArray) (A2 : Option Addr) (n2 c2 : Nat) (l : List PBox) (w : World) (hS : Strs w B A n ss) (hX : Boxes w B A2 n2 l) (hB : B ≤ w.heap.size) :
    Calls Try.prog 11 #[.agg #[.int .i64 d, .int .i64 f, .slice A n c], .slice A2 n2 c2] w (FreshCardI w.heap.size d f (addRes d f ss l).1 (addRes d f ss l).2 w) := by
  have hn := hS.nb
  have hl := hS.len
  have hn2 := hX.nb
  have hS2 := (hS.alloc hB (.cells #[.int .i64 d, .int .i64 f, .slice A n c] 26)).alloc (by simp; omega) (.cells #[.int .i64 0, .int .i64 0, .slice none 0 0] 26)
  have hX2 := (hX.alloc hB (.cells #[.int .i64 d, .int .i64 f, .slice A n c] 26)).alloc (by simp; omega) (.cells #[.int .i64 0, .int .i64 0, .slice none 0 0] 26)
  have HL := Lib.hid hl
  have HL2 := Lib.hid hX.len
  clear hl
  cases hck : cardOk d f ss
  · have HP := Lib.hid (show addRes d f ss l = (ss, -1) by unfold addRes; rw [if_neg (by rw [hck]; simp)])
    go_enter Try.func11, Try.ntmps11
    go_wp2_with (first | (go_at_call 47; refine (i_CardOk _ _ _ _ _ ss _ (hS2.more (by simp; omega))).mono ?_; rw [hck]; rintro e w1 ⟨rfl, hb1⟩; obtain ⟨hcb, hfb⟩ := bcell hb1; have hz_w1_0 : w.heap.size < w1.heap.size := (by have hzz := hb1.size; (try simp at hzz); omega); have hy_w1_0 := Nat.le_of_lt hz_w1_0; have hz_w1_1 : w.heap.size + 1 < w1.heap.size := (by have hzz := hb1.size; (try simp at hzz); omega); have hy_w1_1 := Nat.le_of_lt hz_w1_1) | (go_at_call 52; refine (i_copied _ _ B _ _ _ ss _ (hS2.below (hb1.mono (by simp; omega))) (by omega)).mono ?_; rintro e w3 ⟨A3, c3, rfl, ho3, hb3⟩; obtain ⟨hcb3, hfb3⟩ := bcell hb3; have hz_w3_0 : w.heap.size < w3.heap.size := (by have hzz := hb3.size; (try simp at hzz); omega); have hy_w3_0 := Nat.le_of_lt hz_w3_0; have hz_w3_1 : w.heap.size + 1 < w3.heap.size := (by have hzz := hb3.size; (try simp at hzz); omega); have hy_w3_1 := Nat.le_of_lt hz_w3_1))
    refine bodyPost_ret (v := .tuple #[.agg #[.int .i64 d, .int .i64 f, .slice A3 ss.length c3], .int .i64 (-1)]) (by simp [results, Try.results11, go_sem, *]) rfl ?_
    rw [HP.out]
    exact ⟨A3, c3, rfl, own_up ho3 upr (by first | exact Nat.le_refl _ | (simp; done) | omega | (simp; omega) | exact (‹_ ∧ _ ∧ Below _ _ _›).2.2.size), bel⟩
  · have HP := Lib.hid (show addRes d f ss l = ((addAll d f ss 0 l).1, ((addAll d f ss 0 l).2 : Int)) by unfold addRes; rw [if_pos hck])
    go_enter Try.func11, Try.ntmps11
    go_wp2_with (first | (go_at_call 47; refine (i_CardOk _ _ _ _ _ ss _ (hS2.more (by simp; omega))).mono ?_; rw [hck]; rintro e w1 ⟨rfl, hb1⟩; obtain ⟨hcb, hfb⟩ := bcell hb1; have hz_w1_0 : w.heap.size < w1.heap.size := (by have hzz := hb1.size; (try simp at hzz); omega); have hy_w1_0 := Nat.le_of_lt hz_w1_0; have hz_w1_1 : w.heap.size + 1 < w1.heap.size := (by have hzz := hb1.size; (try simp at hzz); omega); have hy_w1_1 := Nat.le_of_lt hz_w1_1) | (go_at_call 52; refine (i_copied _ _ B _ _ _ ss _ (hS2.below (hb1.mono (by simp; omega))) (by omega)).mono ?_; rintro e w3 ⟨A3, c3, rfl, ho3, hb3⟩; obtain ⟨hcb3, hfb3⟩ := bcell hb3; have hz_w3_0 : w.heap.size < w3.heap.size := (by have hzz := hb3.size; (try simp at hzz); omega); have hy_w3_0 := Nat.le_of_lt hz_w3_0; have hz_w3_1 : w.heap.size + 1 < w3.heap.size := (by have hzz := hb3.size; (try simp at hzz); omega); have hy_w3_1 := Nat.le_of_lt hz_w3_1))
    have hX3 := (hX2.below (hb1.mono (by simp; omega))).below (hb3.mono (by omega))
    have hko := blk_new w3 (.cells #[.int .i64 d, .int .i64 f, .slice A3 ss.length c3] 26)
    have hW : ∃ W, W = w3.alloc (.cells #[.int .i64 d, .int .i64 f, .slice A3 ss.length c3] 26) := ⟨_, rfl⟩
    have hbW : Below w.heap.size w (w3.alloc (.cells #[.int .i64 d, .int .i64 f, .slice A3 ss.length c3] 26)) := bel
    have hoW := own_base2 (base' := w.heap.size) (ho3.alloc (.cells #[.int .i64 d, .int .i64 f, .slice A3 ss.length c3] 26)) (by omega)
    have hXW := hX3.alloc (by omega) (.cells #[.int .i64 d, .int .i64 f, .slice A3 ss.length c3] 26)
    have hkr := blk_alloc (blk_below (blk_below (box_second w (.cells #[.int .i64 d, .int .i64 f, .slice A n c] 26) (.cells #[.int .i64 0, .int .i64 0, .slice none 0 0] 26)) hb1 (by first | (simp; done) | (simp; omega))) hb3 (by omega)) (.cells #[.int .i64 d, .int .i64 f, .slice A3 ss.length c3] 26)
    have hbwW : B ≤ ((w3.alloc (.cells #[.int .i64 d, .int .i64 f, .slice A3 ss.length c3] 26))).heap.size := by first | omega | (simp; omega)
    have hg3 : w.heap.size + 1 < w3.heap.size := by omega
    have hg4 : w3.heap.size < ((w3.alloc (.cells #[.int .i64 d, .int .i64 f, .slice A3 ss.length c3] 26))).heap.size := by first | omega | (simp; done) | (simp; omega)
    generalize (w3.alloc (.cells #[.int .i64 d, .int .i64 f, .slice A3 ss.length c3] 26)) = w5 at *
    have hwB : w.heap.size ≤ w5.heap.size := hbW.size
    have HB0 := hide hS.sb
    go_loopw [7, 21] (fun nn i wr => ∃ (k nk N : Nat) (A' : Option Addr) (c' : Nat) (sk : List ByteArray), k ≤ n2 ∧ nk ≤ k ∧ N ≤ 16777216 ∧ i = .int .i64 k ∧ nn = .int .i64 nk ∧ Hid (sk.length = N) ∧ Hid (addAll d f sk nk (l.drop k) = addAll d f ss 0 l) ∧ Hid (∀ x ∈ sk, x.size ≤ 16777216) ∧
        wr.heap[w3.heap.size]? = some (.cells #[.int .i64 d, .int .i64 f, .slice A' N c'] 26 (0, 0)) ∧ wr.heap[w.heap.size + 1]? = some (.cells #[.int .i64 0, .int .i64 0, .slice none 0 0] 26 (0, 0)) ∧ wr.ownsRow w.heap.size 9 1 (.slice A' N c') N (sk.map Value.string) ∧ w5.heap.size ≤ wr.heap.size ∧ Below w.heap.size w wr) (fun nn i _ => n2 - (intOf i).toNat)
    case atStart => exact ⟨0, 0, ss.length, A3, c3, ss, Nat.zero_le _, Nat.le_refl _, by have := HL.out; omega, rfl, rfl, rfl, rfl, unhide HB0, hko, hkr, hoW, Nat.le_refl _, hbW⟩
    case round =>
      obtain ⟨k, nk, N, A', c', sk, hk, hnk, hN, rfl, rfl, HN, HF, HSB, hblk, hkr2, hown, hzw, hb⟩ := hrel
      by_cases hlt : k < n2
      · obtain ⟨hkl, ad, rfl, hab, hc0, hc1, hc2⟩ := (hX.below (hb.mono hB)).at_ hlt
        have hstep := addAll_step (d := d) (f := f) (ss := sk) (n := nk) (k := k) (l := l) hkl
        have HST := Lib.hid hstep
        clear hstep
        have hbo := boxRes_ok 100 d f sk l[k].F l[k].L l[k].T 16777216 (by have := HN.out; omega) HSB.out
        have HBO := hide hbo
        clear hbo
        obtain ⟨hx0, hx1, hx2, hxl⟩ := blk3 hblk
        obtain ⟨hy0, hy1, hy2, hyl⟩ := blk3 hkr2
        have hSk : Strs wr wr.heap.size A' N sk := strs_of_own hown hN HSB.out
        have hcon := fun (W : World) (h : Strs W wr.heap.size A' N sk) (hz : wr.heap.size ≤ W.heap.size) => i_AddBox d f wr.heap.size A' N c' sk l[k].F l[k].L l[k].T W h hz
        have HCON := hide hcon
        clear hcon
        generalize er : (boxRes 100 d f sk l[k].F l[k].L l[k].T).1 = sr at *
        generalize eb : (boxRes 100 d f sk l[k].F l[k].L l[k].T).2 = br at *
        have hfalse : br = false → sr = sk := fun h => by rw [← er]; exact boxRes_false (by rw [eb]; exact h)
        have HFA := hide hfalse
        clear hfalse er eb
        cases hbr : br
        · subst hbr
          go_wp2_with (first | (go_at_call 17; refine (unhide HCON _ (hSk.alloc (Nat.le_refl _) _) (by simp)).mono ?_; rintro e w7 ⟨A7, c7, rfl, ho7, hb7⟩; have hk7 := blk_next (blk_alloc hblk (.cells #[.int .i64 l[k].F, .int .i64 l[k].L, .int .i64 l[k].T] 39)) hb7; have hr7 := blk_next (blk_alloc hkr2 (.cells #[.int .i64 l[k].F, .int .i64 l[k].L, .int .i64 l[k].T] 39)) hb7; have ho7k := own_below (hown.alloc (.cells #[.int .i64 l[k].F, .int .i64 l[k].L, .int .i64 l[k].T] 39)) hb7; have hz7 := hb7.size; (try simp at hz7); obtain ⟨hv0, hv1, hv2, hvl⟩ := blk3 hk7; have hfv0 := (blk_cells hk7 0).2; have hfv1 := (blk_cells hk7 1).2; have hfv2 := (blk_cells hk7 2).2))
          have hb7w : Below w.heap.size w w7 := bel
          go_roundw
          case rel => exact ⟨k + 1, nk, N, A', c', sk, by omega, by omega, hN, by go_num, rfl, HN, by unfold Hid; rw [← HF.out, HST.out]; simp, HSB, blk_alloc hk7 _, blk_alloc hr7 _, ho7k.alloc _, by simp; omega, bel⟩
          case measure => simp [intOf]; omega
        · subst hbr
          go_wp2_with (first | (go_at_call 17; refine (unhide HCON _ (hSk.alloc (Nat.le_refl _) _) (by simp)).mono ?_; rintro e w7 ⟨A7, c7, rfl, ho7, hb7⟩; have hk7 := blk_next (blk_alloc hblk (.cells #[.int .i64 l[k].F, .int .i64 l[k].L, .int .i64 l[k].T] 39)) hb7; have hr7 := blk_next (blk_alloc hkr2 (.cells #[.int .i64 l[k].F, .int .i64 l[k].L, .int .i64 l[k].T] 39)) hb7; have ho7k := own_below (hown.alloc (.cells #[.int .i64 l[k].F, .int .i64 l[k].L, .int .i64 l[k].T] 39)) hb7; have hz7 := hb7.size; (try simp at hz7); obtain ⟨hv0, hv1, hv2, hvl⟩ := blk3 hk7; have hfv0 := (blk_cells hk7 0).2; have hfv1 := (blk_cells hk7 1).2; have hfv2 := (blk_cells hk7 2).2))
          have hb7w : Below w.heap.size w w7 := bel
          go_roundw
          case rel => exact ⟨k + 1, nk + 1, sr.length, A7, c7, sr, by omega, by omega, (unhide HBO).1, by go_num, by go_num, rfl, by unfold Hid; rw [← HF.out, HST.out]; simp, (unhide HBO).2, blk_alloc (blk3_set hk7 _ _ _) _, blk_alloc (blk_other3 hr7 (by omega) _ _ _) _, (own3_set (own_base2 ho7 (by simp; omega)) hk7 (by decide) _ _ _).alloc _, by simp [World.setCell]; omega, bel⟩
          case measure => simp [intOf]; omega
      · have hke : k = n2 := by omega
        subst hke
        have hd : l.drop k = [] := List.drop_eq_nil_of_le (by have := HL2.out; omega)
        have hfin : addAll d f ss 0 l = (sk, nk) := by rw [← HF.out, hd]; rfl
        have HFI := Lib.hid hfin
        clear hd hfin
        obtain ⟨hx0, hx1, hx2, hxl⟩ := blk3 hblk
        obtain ⟨hy0, hy1, hy2, hyl⟩ := blk3 hkr2
        have hfy0 := (blk_cells hkr2 0).2
        have hfy1 := (blk_cells hkr2 1).2
        have hfy2 := (blk_cells hkr2 2).2
        go_wp2
        refine bodyPost_ret (v := .tuple #[.agg #[.int .i64 d, .int .i64 f, .slice A' N c'], .int .i64 nk]) (by simp [results, Try.results11, go_sem, *]) rfl ?_
        rw [HP.out, HFI.out]
        exact freshI HN.out (own3_set hown hkr2 (by decide) _ _ _) bel
end Go.Proofs.Ytccjedongkokoaa
namespace Go.Proofs.Ytccjedongkokoaa
set_option linter.unusedVariables false
set_option linter.unusedSimpArgs false
set_option maxRecDepth 10000
theorem allC_flips {c : UInt8} (hc : c = 100 ∨ c = 102) {at_ : Int} {ss : List ByteArray} {F m : Nat} (ha : allC c at_ ss F m = true) : allC (otherC c) at_ (flips at_ ss F m) F m = true := by
  unfold allC at *
  rw [List.all_eq_true] at *
  intro x hx
  rw [List.mem_take_iff_getElem] at hx
  obtain ⟨i, hi, rfl⟩ := hx
  rw [List.length_drop, flips_len] at hi
  have hcr : cornerB c (ss[F + i]'(by omega)) at_ = true := by
    refine ha _ ?_
    rw [List.mem_take_iff_getElem]
    exact ⟨i, by rw [List.length_drop]; omega, by simp⟩
  simp only [List.getElem_drop, flips, List.getElem_mapIdx]
  rw [if_pos (by omega)]
  exact corner_back hc hcr
theorem swap_back {c : UInt8} {s : ByteArray} {k : Int} (h : cornerB c s k = true) : swapB (swapB s k) k = s := by
  obtain ⟨p, q, a, b, e1, e2, e3, _, _⟩ := swap_data h
  apply ba_ext
  rw [e1]
  show swapL (swapB s k).data.toList k.toNat = _
  rw [e3, e2, Int.toNat_natCast, swapL_split p q b a p.length rfl]
theorem flips_at (at_ : Int) (ss : List ByteArray) (F j i : Nat) (h : i < ss.length) : (flips at_ ss F j)[i]'(by rw [flips_len]; exact h) = if F ≤ i ∧ i < F + j then swapB ss[i] at_ else ss[i] := by
  simp only [flips, List.getElem_mapIdx]
theorem allC_get {c : UInt8} {at_ : Int} {ss : List ByteArray} {F m : Nat} (h : allC c at_ ss F m = true) {i : Nat} (hi : i < ss.length) (h1 : F ≤ i) (h2 : i < F + m) : cornerB c ss[i] at_ = true := by
  cases hc : cornerB c ss[i] at_
  · have e : allC c at_ ss F m = false := allC_stop (j := i - F) (by omega) (by omega) (by rw [← hc]; congr 2; omega)
    rw [e] at h; cases h
  · rfl
theorem allC_of {c : UInt8} {at_ : Int} {ss : List ByteArray} {F m : Nat} (h : ∀ i (hi : i < ss.length), F ≤ i → i < F + m → cornerB c ss[i] at_ = true) : allC c at_ ss F m = true := by
  unfold allC
  rw [List.all_eq_true]
  intro x hx
  obtain ⟨j, hj, rfl⟩ := List.mem_take_iff_getElem.1 hx
  rw [List.getElem_drop]
  rw [List.length_drop] at hj
  exact h _ (by omega) (by omega) (by omega)
theorem flips_back {c : UInt8} {at_ : Int} {ss : List ByteArray} {F m : Nat} (h : allC c at_ ss F m = true) : flips at_ (flips at_ ss F m) F m = ss := by
  apply List.ext_getElem (by rw [flips_len, flips_len])
  intro i h1 h2
  rw [flips_at _ _ _ _ _ (by rw [flips_len]; exact h2), flips_at _ _ _ _ _ h2]
  by_cases q : F ≤ i ∧ i < F + m
  · rw [if_pos q, if_pos q, swap_back (allC_get h h2 q.1 q.2)]
  · rw [if_neg q, if_neg q]
theorem volL_set : ∀ (l : List ByteArray) (i : Nat) (h : i < l.length) (t : ByteArray), volL (l.set i t) + roomOf l[i].data.toList = volL l + roomOf t.data.toList
  | x :: l, 0, h, t => by simp only [List.set_cons_zero, volL, List.getElem_cons_zero]; omega
  | x :: l, i + 1, h, t => by
    have := volL_set l i (by simpa using h) t
    simp only [List.set_cons_succ, volL, List.getElem_cons_succ]
    omega
theorem vol_flips {at_ : Int} {ss : List ByteArray} {F : Nat} : ∀ m : Nat, F + m ≤ ss.length → allC 100 at_ ss F m = true → volL (flips at_ ss F m) = volL ss + m
  | 0, _, _ => by rw [flips_zero]; simp
  | m + 1, hm, h => by
    rw [allC_step _ _ _ _ _ (by omega), Bool.and_eq_true] at h
    have ih := vol_flips m (by omega) h.1
    have hl : F + m < (flips at_ ss F m).length := by rw [flips_len]; omega
    have e := volL_set (flips at_ ss F m) (F + m) hl (swapB ss[F + m] at_)
    rw [flips_step _ _ _ _ (by omega), flips_at _ _ _ _ _ (by omega), if_neg (by omega), (room_swap h.2).2.1] at e
    push_cast
    omega
theorem boxOk_yes {d f : Int} {ss : List ByteArray} {F L : Nat} (h : cardOk d f ss = true) (h1 : F ≤ L) (h2 : L < ss.length) : boxOk d f ss ss.length F L = true := by
  unfold boxOk
  rw [h]
  simp only [Bool.true_and, Bool.and_eq_true, decide_eq_true_eq]
  exact ⟨inB_iff'.2 ⟨by omega, by omega⟩, by omega⟩
structure Wide (ss : List ByteArray) (k : Nat) (at_ : Int) (F L : Nat) : Prop where
  fk : F ≤ k
  kl : k ≤ L
  ln : L < ss.length
  all : ∀ i (hi : i < ss.length), F ≤ i → i ≤ L → cornerB 100 ss[i] at_ = true
  lo : ∀ i (hi : i < ss.length), i + 1 = F → cornerB 100 ss[i] at_ = false
  hi : ∀ i (hi : i < ss.length), i = L + 1 → cornerB 100 ss[i] at_ = false
theorem Wide.allC {ss : List ByteArray} {k F L : Nat} {at_ : Int} (h : Wide ss k at_ F L) : Go.Proofs.Ytccjedongkokoaa.allC 100 at_ ss F (L + 1 - F) = true :=
  allC_of fun i hi h1 h2 => h.all i hi h1 (by have := h.fk; have := h.kl; omega)
theorem wide_can {d f : Int} {ss : List ByteArray} {k F L : Nat} {at_ : Int} (hc : cardOk d f ss = true) (h : Wide ss k at_ F L) : canAdd d f ss F L at_ = true := by
  unfold canAdd
  rw [boxOk_yes hc (Nat.le_trans h.fk h.kl) h.ln]
  exact h.allC
theorem wide_add {d f : Int} {ss : List ByteArray} {k F L : Nat} {at_ : Int} (hc : cardOk d f ss = true) (h : Wide ss k at_ F L) : boxRes 100 d f ss F L at_ = (flips at_ ss F (L + 1 - F), true) := by
  unfold boxRes
  rw [if_pos ⟨boxOk_yes hc (Nat.le_trans h.fk h.kl) h.ln, h.allC⟩]
  rfl
theorem wide_take {d f : Int} {ss : List ByteArray} {k F L : Nat} {at_ : Int} (hc : cardOk d f ss = true) (h : Wide ss k at_ F L) : boxRes 102 d f (flips at_ ss F (L + 1 - F)) F L at_ = (ss, true) := by
  have h1 := cardOk_flips hc h.allC
  have h2 := allC_flips (c := 100) (.inl rfl) h.allC
  unfold boxRes
  rw [if_pos ⟨boxOk_yes h1 (Nat.le_trans h.fk h.kl) (by rw [flips_len]; exact h.ln), h2⟩]
  show (flips at_ (flips at_ ss F (L + 1 - F)) F (L + 1 - F), true) = _
  rw [flips_back h.allC]
theorem wide_vol {d f : Int} {ss : List ByteArray} {k F L : Nat} {at_ : Int} (hc : cardOk d f ss = true) (h : Wide ss k at_ F L) : volOf d f (flips at_ ss F (L + 1 - F)) = volOf d f ss + L - F + 1 := by
  unfold volOf
  have := h.fk; have := h.kl; have := h.ln
  rw [if_pos hc, if_pos (cardOk_flips hc h.allC), vol_flips _ (by omega) h.allC]
  omega
theorem wide_lo {d f : Int} {ss : List ByteArray} {k F L : Nat} {at_ : Int} (h : Wide ss k at_ F L) : canAdd d f ss ((F : Int) - 1) L at_ = false := by
  unfold canAdd
  have h1 := h.fk; have h2 := h.kl; have h3 := h.ln
  by_cases h0 : F = 0
  · subst h0
    have : boxOk d f ss ss.length (((0 : Nat) : Int) - 1) L = false := by unfold boxOk inB; simp
    rw [this]; rfl
  · obtain ⟨G, rfl⟩ : ∃ G, F = G + 1 := ⟨F - 1, by omega⟩
    have e : (((G + 1 : Nat) : Int) - 1) = (G : Int) := by omega
    have : allC 100 at_ ss G (L + 1 - G) = false := allC_stop (j := 0) (by omega) (by omega) (by rw [← h.lo G (by omega) rfl]; rfl)
    rw [e]
    show (_ && allC 100 at_ ss G (L + 1 - G)) = false
    rw [this, Bool.and_false]
theorem wide_hi {d f : Int} {ss : List ByteArray} {k F L : Nat} {at_ : Int} (h : Wide ss k at_ F L) : canAdd d f ss F ((L : Int) + 1) at_ = false := by
  unfold canAdd
  have h1 := h.fk; have h2 := h.kl; have h3 := h.ln
  by_cases h0 : L + 1 = ss.length
  · have : boxOk d f ss ss.length F ((L : Int) + 1) = false := by unfold boxOk; rw [decide_eq_false (by omega), Bool.and_false]
    rw [this]; rfl
  · have : allC 100 at_ ss F (L + 1 + 1 - F) = false := allC_stop (j := L + 1 - F) (by omega) (by omega) (by rw [← h.hi (L + 1) (by omega) rfl]; congr 2; omega)
    show (_ && allC 100 at_ ss F (((L : Int) + 1).toNat + 1 - F)) = false
    rw [show ((L : Int) + 1).toNat = L + 1 by omega, this, Bool.and_false]
def pbox (k : Nat) (x : Int) : PBox := ⟨k, k, x⟩
theorem one_box {d f : Int} {ss : List ByteArray} {k : Nat} {x : Int} (hc : cardOk d f ss = true) (hk : k < ss.length) (h : cornerB 100 ss[k] x = true) : boxRes 100 d f ss k k x = (ss.set k (swapB ss[k] x), true) := by
  have ha : allC 100 x ss k 1 = true := by rw [allC_step _ _ _ _ _ (show k + 0 < ss.length by omega), allC_zero]; exact h
  have hf : flips x ss k 1 = ss.set k (swapB ss[k] x) := by rw [← flips_step _ _ _ _ (show k + 0 < ss.length by omega), flips_zero]; rfl
  unfold boxRes
  rw [show (k : Int).toNat + 1 - (k : Int).toNat = 1 by omega, Int.toNat_natCast, if_pos ⟨boxOk_yes hc (Nat.le_refl _) hk, ha⟩, hf]
theorem card_set {d f : Int} {ss : List ByteArray} {k : Nat} {t : ByteArray} (hc : cardOk d f ss = true) (ht : isStrip t.data.toList = true ∧ (cnt 100 t.data.toList : Int) = d ∧ (cnt 102 t.data.toList : Int) = f) : cardOk d f (ss.set k t) = true := by
  obtain ⟨h1, h2, h3⟩ := card_iff.1 hc
  refine card_iff.2 ⟨h1, by rw [List.length_set]; exact h2, fun s hs => ?_⟩
  rcases List.mem_or_eq_of_mem_set hs with q | q
  · exact h3 s q
  · rw [q]; exact ht
theorem addAll_way {d f : Int} {k : Nat} : ∀ (l : List Int) (ss : List ByteArray) (n : Nat) (t : ByteArray) (rest : List PBox) (hc : cardOk d f ss = true) (hk : k < ss.length), Way ss[k] l t → addAll d f ss n (l.map (pbox k) ++ rest) = addAll d f (ss.set k t) (n + l.length) rest
  | [], ss, n, t, rest, hc, hk, h => by
    have h : ss[k] = t := h
    subst h
    simp
  | x :: l, ss, n, t, rest, hc, hk, h => by
    obtain ⟨h1, h2⟩ := h
    have e := one_box hc hk h1
    obtain ⟨r1, _, r3, r4⟩ := room_swap h1
    obtain ⟨q1, q2, q3⟩ := strips_of hc (List.getElem_mem hk)
    have hc2 : cardOk d f (ss.set k (swapB ss[k] x)) = true := card_set hc ⟨r1, by omega, by omega⟩
    rw [List.map_cons, List.cons_append]
    show (if (boxRes 100 d f ss k k x).2 = true then addAll d f (boxRes 100 d f ss k k x).1 (n + 1) (l.map (pbox k) ++ rest) else _) = _
    rw [e, if_pos rfl]
    have := addAll_way l (ss.set k (swapB ss[k] x)) (n + 1) t rest hc2 (by rw [List.length_set]; exact hk) (by rw [List.getElem_set_self]; exact h2)
    rw [this, List.set_set, List.length_cons]
    congr 1
    omega
def mixC (ss fl : List ByteArray) (j : Nat) : List ByteArray := ss.take j ++ fl.drop j
theorem mixC_step {ss fl : List ByteArray} {j : Nat} (hl : fl.length = ss.length) (hj : j < ss.length) : (mixC ss fl j).set j ss[j] = mixC ss fl (j + 1) := by
  unfold mixC
  have hlen : (ss.take j).length = j := by rw [List.length_take]; omega
  rw [List.set_append_right _ _ (by omega), hlen, Nat.sub_self, List.drop_eq_getElem_cons (show j < fl.length by omega), List.set_cons_zero, List.take_succ_eq_append_getElem hj, List.append_assoc]
  rfl
theorem mixC_at {ss fl : List ByteArray} {j : Nat} (hl : fl.length = ss.length) (hj : j < ss.length) : ∃ h : j < (mixC ss fl j).length, (mixC ss fl j)[j] = fl[j]'(by omega) := by
  have hlen : (ss.take j).length = j := by rw [List.length_take]; omega
  refine ⟨by unfold mixC; rw [List.length_append, hlen, List.length_drop]; omega, ?_⟩
  unfold mixC
  rw [List.getElem_append_right (by omega), List.getElem_drop]
  congr 1
  omega
theorem mixC_ok {d f : Int} {ss fl : List ByteArray} (j : Nat) (h1 : cardOk d f ss = true) (h2 : cardOk d f fl = true) (hl : fl.length = ss.length) (hj : j ≤ ss.length) : cardOk d f (mixC ss fl j) = true := by
  obtain ⟨a1, a2, a3⟩ := card_iff.1 h1
  obtain ⟨b1, b2, b3⟩ := card_iff.1 h2
  refine card_iff.2 ⟨a1, ?_, fun s hs => ?_⟩
  · unfold mixC; rw [List.length_append, List.length_take, List.length_drop]; omega
  · rcases List.mem_append.1 hs with q | q
    · exact a3 s (List.mem_of_mem_take q)
    · exact b3 s (List.mem_of_mem_drop q)
structure Built (d f : Int) (ss fl : List ByteArray) (j : Nat) (L : List PBox) : Prop where
  add : ∀ rest, addAll d f fl 0 (L ++ rest) = addAll d f (mixC ss fl j) L.length rest
  vol : (L.length : Int) = volL (ss.take j)
theorem Built.zero {d f : Int} {ss fl : List ByteArray} : Built d f ss fl 0 [] := ⟨fun rest => by simp [mixC], rfl⟩
theorem Built.step {d f : Int} {ss fl : List ByteArray} {j : Nat} {L : List PBox} {l : List Int} (h : Built d f ss fl j L) (h1 : cardOk d f ss = true) (h2 : cardOk d f fl = true) (hl : fl.length = ss.length) (hj : j < ss.length) (hw : Way (fl[j]'(by omega)) l ss[j]) (h0 : roomOf (fl[j]'(by omega)).data.toList = 0) : Built d f ss fl (j + 1) (L ++ l.map (pbox j)) := by
  obtain ⟨hk, e⟩ := mixC_at hl hj
  refine ⟨fun rest => ?_, ?_⟩
  · rw [List.append_assoc, h.add, addAll_way l _ _ ss[j] rest (mixC_ok j h1 h2 hl (by omega)) hk (by rw [e]; exact hw), mixC_step hl hj, List.length_append, List.length_map]
  · have := hw.room
    rw [h0] at this
    rw [List.length_append, List.length_map, volL_take _ _ hj]
    have hv := h.vol
    push_cast
    omega
theorem Built.full {d f : Int} {ss fl : List ByteArray} {L : List PBox} (h : Built d f ss fl ss.length L) (h1 : cardOk d f ss = true) (h2 : cardOk d f fl = true) (hl : fl.length = ss.length) : addRes d f fl L = (ss, (L.length : Int)) ∧ volOf d f ss = L.length := by
  have e := h.add []
  rw [List.append_nil] at e
  have hm : mixC ss fl ss.length = ss := by unfold mixC; rw [List.take_of_length_le (Nat.le_refl _), List.drop_of_length_le (by omega), List.append_nil]
  rw [hm] at e
  have hv := h.vol
  rw [List.take_of_length_le (Nat.le_refl _)] at hv
  constructor
  · unfold addRes
    rw [if_pos h2, e]
    rfl
  · unfold volOf
    rw [if_pos h1, hv]
theorem addRes_none (L : List PBox) : addRes 0 0 [] L = ([], -1) := by
  unfold addRes
  rw [if_neg (by decide)]
-- the flat strip
theorem flat_list (d f : Nat) : (flatT d f).data.toList = List.replicate d 100 ++ List.replicate f 102 := rfl
theorem pairs_flat (d f : Nat) : pairs (List.replicate d 100 ++ List.replicate f 102) = d * f := by
  induction d with
  | zero =>
    simp only [List.replicate_zero, List.nil_append, Nat.zero_mul]
    induction f with
    | zero => rfl
    | succ f ih => rw [List.replicate_succ, pairs, ih]; rfl
  | succ d ih =>
    rw [List.replicate_succ, List.cons_append, pairs, ih, cnt_app, drew_rep]
    have : cnt 102 (List.replicate d 100) = 0 := by unfold cnt; rw [List.count_replicate]; simp
    rw [this, if_neg (by decide), Nat.succ_mul]
    omega
theorem flat_room (d f : Nat) (h1 : 1 ≤ d) (h2 : d ≤ 8) (h3 : 1 ≤ f) (h4 : f ≤ 8) : roomOf (flatT d f).data.toList = 0 := by
  have hD : Drew d f (flatT d f) := Drew.flat d f
  have hs := drew_strip hD h1 h2 h3 h4
  rw [roomOf_yes hs]
  unfold htsOf
  rw [sum_hts, hD.1, hD.2.1, flat_list, pairs_flat]
  push_cast
  omega
theorem flat_above {d f : Nat} {t : List UInt8} (hf : sameFrame t (flatT d f).data.toList = true) : aboveL t (flatT d f).data.toList = true := by
  have hD : Drew d f (flatT d f) := Drew.flat d f
  refine (above_iff hf).2 fun k hk => ?_
  obtain ⟨h1, h2, h3, h4⟩ := frame_iff.1 hf
  rw [hD.1] at h3
  rw [hD.2.1] at h4
  have ht := let2_of h1
  have hl := let2_cnt ht
  have e3 := let2_cnt (l := t.take k) (fun x hx => ht x (List.mem_of_mem_take hx))
  rw [List.length_take, Nat.min_eq_left hk] at e3
  have e4 : cnt 100 (t.take k) ≤ cnt 100 t := by
    have : cnt 100 t = cnt 100 (t.take k) + cnt 100 (t.drop k) := by rw [← cnt_app, List.take_append_drop]
    omega
  rw [flat_list, List.take_append, cnt_app, List.take_replicate, List.take_replicate, List.length_replicate, drew_rep]
  have : cnt 102 (List.replicate (min k d) 100) = 0 := by unfold cnt; rw [List.count_replicate]; simp
  omega
end Go.Proofs.Ytccjedongkokoaa
