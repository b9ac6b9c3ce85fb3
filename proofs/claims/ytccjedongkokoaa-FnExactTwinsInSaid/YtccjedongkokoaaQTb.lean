/- Contracts of the program's and the reference's functions (LawKit, LawKit2, SzKit, Card4, Card5, Rows1, Lift0, Lift, LawBox, RowBox, LawStep, Rows2, LawKit3, Frame, UCard, Mem3). -/
import Derived.Deep.RegionLaw
import Derived.Deep.Slices
import Derived.HandedShaped
import Derived.Laws.OwnMore
import Derived.Lib.SmallJoins
import Derived.OpenShut
import Derived.ProofKit
import Derived.SliceStrings
import Derived.WalkKit
import Derived.WalkSmall
import Derived.Test.YtccjedongkokoaaRows
import Derived.Test.YtccjedongkokoaaQTa
namespace Go.Proofs.Ytccjedongkokoaa
open Go.ChangeShapes Go.WideShapes Go.ChangeAt Go.RowKit
set_option linter.unusedVariables false
set_option maxRecDepth 10000
theorem blk_next {g : Nat} {w w' : World} {o : Obj} (h : w.heap[g]? = some o) (hb : Below w.heap.size w w') : w'.heap[g]? = some o := blk_below h hb (blk_lt h)
theorem blk_marked {w w' : World} {g : Nat} {t : TypeId} {cs : Array Value} {base n : Nat} {e : TypeId} {v : Value} {xs : List Value} (h : w.heap[g]? = some (.cells cs t (0, 0))) (hg : w.grownBy w' v.ownBlock)
    (ho : w.ownsRow base e 1 v n xs) (hne : e ≠ t) : w'.heap[g]? = some (.cells cs t (0, 0)) := by
  refine (hg.block g (blk_lt h) ?_).trans h
  intro hv
  rcases ho.2 with ⟨rfl, _⟩ | ⟨g', cap, cur, rfl, _, hh, _⟩
  · simp [Value.ownBlock] at hv
  · have : g = g' := by simpa [Value.ownBlock] using hv
    subst this
    rw [h] at hh
    injection hh with hh
    injection hh with _ h2
    exact hne h2.symm
theorem l_eqCard_args (d f : Int) (B : Nat) (A1 A2 : Option Addr) (n1 n2 c1 c2 : Nat) (ss : List ByteArray) (w : World) (h1 : Strs w B A1 n1 ss) (h2 : Strs w B A2 n2 ss) (hB : B ≤ w.heap.size) :
    Calls Try.prog 123 #[.agg #[.int .i64 d, .int .i64 f, .slice A1 n1 c1], .agg #[.int .i64 d, .int .i64 f, .slice A2 n2 c2]] w fun e w' => e = .returned (.bool true) ∧ Below w.heap.size w w' := by
  refine (l_eqCard B d f d f A1 A2 n1 n2 c1 c2 ss ss w h1 h2 hB).mono ?_
  rintro e w' ⟨rfl, hb⟩
  exact ⟨ret_bool (by simp [eqSS]), hb⟩
end Go.Proofs.Ytccjedongkokoaa
namespace Go.Proofs.Ytccjedongkokoaa
open Go.ChangeShapes Go.WideShapes Go.ChangeAt Go.RowKit
set_option linter.unusedVariables false
set_option maxRecDepth 10000
theorem own_base {w : World} {base base' : Nat} {e : TypeId} {size : Nat} {v : Value} {n : Nat} {xs : List Value} (h : w.ownsRow base e size v n xs) (hb : base' ≤ base) : w.ownsRow base' e size v n xs :=
  own_up h (Upper.refl _ _) hb
theorem blk4 {w : World} {g : Nat} {t : TypeId} {a0 a1 a2 a3 : Value} (h : w.heap[g]? = some (.cells #[a0, a1, a2, a3] t (0, 0))) :
    w.cell? ⟨g, 0, none⟩ = some a0 ∧ w.cell? ⟨g, 1, none⟩ = some a1 ∧ w.cell? ⟨g, 2, none⟩ = some a2 ∧ w.cell? ⟨g, 3, none⟩ = some a3 ∧ g < w.heap.size :=
  ⟨(blk_cells h 0).1, (blk_cells h 1).1, (blk_cells h 2).1, (blk_cells h 3).1, blk_lt h⟩
theorem sz_ub (ss : List ByteArray) (l : Int) (h : l ≤ 1048576) : szStrs ss l ≤ 1048576 := by
  unfold szStrs; split <;> omega
end Go.Proofs.Ytccjedongkokoaa
namespace Go.Proofs.Ytccjedongkokoaa
open Go.ChangeShapes Go.WideShapes Go.ChangeAt Go.RowKit
set_option linter.unusedVariables false
set_option maxRecDepth 10000
def mirrorRes (d f : Int) (ss : List ByteArray) : Int × Int × List ByteArray := if cardOk d f ss = true then (d, f, ss.reverse) else (0, 0, [])
set_option maxHeartbeats 800000 in
theorem i_MirrorCard (d f : Int) (B : Nat) (A : Option Addr) (n c : Nat) (ss : List ByteArray) (w : World) (hS : Strs w B A n ss) (hB : B ≤ w.heap.size) :
    Calls Try.prog 68 #[.agg #[.int .i64 d, .int .i64 f, .slice A n c]] w (FreshCard w.heap.size (mirrorRes d f ss).1 (mirrorRes d f ss).2.1 (mirrorRes d f ss).2.2 w) := by
  have hn := hS.nb
  have hl := hS.len
  have HL := Lib.hid hl
  have hS2 := (hS.alloc hB (.cells #[.int .i64 d, .int .i64 f, .slice A n c] 26)).alloc (by simp; omega) (.cells #[.int .i64 0, .int .i64 0, .slice none 0 0] 26)
  cases hh : cardOk d f ss
  · have HP : Hid (mirrorRes d f ss = (0, 0, [])) := by unfold Hid mirrorRes; rw [hh]; rfl
    go_enter Try.func68, Try.ntmps68
    go_wp2_with (first | (go_at_call 47; refine (i_CardOk _ _ _ _ _ ss _ (hS2.more (by simp; omega))).mono ?_; rintro e w1 ⟨rfl, hb1⟩; obtain ⟨hcb, hfb⟩ := bcell hb1; have hz_w1_0 : w.heap.size < w1.heap.size := (by have hzz := hb1.size; (try simp at hzz); omega); have hy_w1_0 := Nat.le_of_lt hz_w1_0; have hz_w1_1 : w.heap.size + 1 < w1.heap.size := (by have hzz := hb1.size; (try simp at hzz); omega); have hy_w1_1 := Nat.le_of_lt hz_w1_1))
    refine bodyPost_ret (v := .agg #[.int .i64 0, .int .i64 0, .slice none 0 0]) (by simp [results, Try.results68, go_sem, *]) rfl ?_
    rw [HP.out]
    exact ⟨none, 0, rfl, World.ownsRow_nil _ _ _ _, bel⟩
  · have HP : Hid (mirrorRes d f ss = (d, f, ss.reverse)) := by unfold Hid mirrorRes; rw [hh]; rfl
    have hpos : 0 < n := by
      have h := hh
      unfold cardOk at h
      simp only [Bool.and_eq_true] at h
      have h2 := inB_iff.1 h.2.1
      omega
    clear hl
    go_enter Try.func68, Try.ntmps68
    go_wp2_with (first | (go_at_call 47; refine (i_CardOk _ _ _ _ _ ss _ (hS2.more (by simp; omega))).mono ?_; rintro e w1 ⟨rfl, hb1⟩; obtain ⟨hcb, hfb⟩ := bcell hb1; have hz_w1_0 : w.heap.size < w1.heap.size := (by have hzz := hb1.size; (try simp at hzz); omega); have hy_w1_0 := Nat.le_of_lt hz_w1_0; have hz_w1_1 : w.heap.size + 1 < w1.heap.size := (by have hzz := hb1.size; (try simp at hzz); omega); have hy_w1_1 := Nat.le_of_lt hz_w1_1) | (go_at_call 52; refine (i_copied _ _ B _ _ _ ss _ (hS2.below (hb1.mono (by simp; omega))) (by omega)).mono ?_; rintro e w2 ⟨A1, c1, rfl, ho2, hb2⟩; obtain ⟨hcb2, hfb2⟩ := bcell hb2; have hz_w2_0 : w.heap.size < w2.heap.size := (by have hzz := hb2.size; (try simp at hzz); omega); have hy_w2_0 := Nat.le_of_lt hz_w2_0; have hz_w2_1 : w.heap.size + 1 < w2.heap.size := (by have hzz := hb2.size; (try simp at hzz); omega); have hy_w2_1 := Nat.le_of_lt hz_w2_1; have hKl : 0 < ss.length := (by have := HL.out; omega); obtain ⟨g, cap, hv, hbg, hglt⟩ := ho2.form (by omega); (have hA : A1 = some ⟨g, 0, none⟩ := (by injection hv)); subst hA; clear hv; have hge_g : w.heap.size + 2 ≤ g := (by have hzz := hbg; (try simp at hzz); omega); have hne_g_0 : g ≠ w.heap.size := (by have hzz := hbg; (try simp at hzz); omega); have hne2_g_0 := Ne.symm hne_g_0; have hne_g_1 : g ≠ w.heap.size + 1 := (by have hzz := hbg; (try simp at hzz); omega); have hne2_g_1 := Ne.symm hne_g_1) | (go_at_call 111; refine (rev_str w1.heap.size g _ _ ss _ (ho2.alloc _) (by have := HL.out; omega)).mono ?_; rintro e w3 ⟨rfl, ho3, hg3⟩; (have hb3 := grown_below (B := w1.heap.size) hg3 (by intro k hk; injection hk; omega) (by simp; omega)); obtain ⟨hcb3, hfb3⟩ := gcell hg3; have hz_w3_0 : w.heap.size < w3.heap.size := (by have hzz := hb3.size; (try simp at hzz); omega); have hy_w3_0 := Nat.le_of_lt hz_w3_0; have hz_w3_1 : w.heap.size + 1 < w3.heap.size := (by have hzz := hb3.size; (try simp at hzz); omega); have hy_w3_1 := Nat.le_of_lt hz_w3_1; have hgw : w2.heap.size ≠ g := (by omega)))
    refine bodyPost_ret (v := .agg #[.int .i64 d, .int .i64 f, .slice (some ⟨g, 0, none⟩) ss.length c1]) (by simp [results, Try.results68, go_sem, *]) rfl ?_
    rw [HP.out]
    unfold FreshCard
    dsimp only
    rw [List.length_reverse]
    exact ⟨_, c1, rfl, own_up ho3 upr (by first | exact Nat.le_refl _ | (simp; done) | omega | (simp; omega) | exact (‹_ ∧ _ ∧ Below _ _ _›).2.2.size), bel⟩
set_option maxHeartbeats 800000 in
theorem s_MirrorCard (d f : Int) (B : Nat) (A : Option Addr) (n c : Nat) (ss : List ByteArray) (w : World) (hS : Strs w B A n ss) (hB : B ≤ w.heap.size) :
    Calls Try.prog 22 #[.agg #[.int .i64 d, .int .i64 f, .slice A n c]] w (FreshCard w.heap.size (mirrorRes d f ss).1 (mirrorRes d f ss).2.1 (mirrorRes d f ss).2.2 w) := by
  have hn := hS.nb
  have hl := hS.len
  have HL := Lib.hid hl
  have hS2 := (hS.alloc hB (.cells #[.int .i64 d, .int .i64 f, .slice A n c] 26)).alloc (by simp; omega) (.cells #[.int .i64 0, .int .i64 0, .slice none 0 0] 26)
  cases hh : cardOk d f ss
  · have HP : Hid (mirrorRes d f ss = (0, 0, [])) := by unfold Hid mirrorRes; rw [hh]; rfl
    go_enter Try.func22, Try.ntmps22
    go_wp2_with (first | (go_at_call 51; refine (s_CardOk _ _ _ _ _ ss _ (hS2.more (by simp; omega))).mono ?_; rintro e w1 ⟨rfl, hb1⟩; obtain ⟨hcb, hfb⟩ := bcell hb1; have hz_w1_0 : w.heap.size < w1.heap.size := (by have hzz := hb1.size; (try simp at hzz); omega); have hy_w1_0 := Nat.le_of_lt hz_w1_0; have hz_w1_1 : w.heap.size + 1 < w1.heap.size := (by have hzz := hb1.size; (try simp at hzz); omega); have hy_w1_1 := Nat.le_of_lt hz_w1_1))
    refine bodyPost_ret (v := .agg #[.int .i64 0, .int .i64 0, .slice none 0 0]) (by simp [results, Try.results22, go_sem, *]) rfl ?_
    rw [HP.out]
    exact ⟨none, 0, rfl, World.ownsRow_nil _ _ _ _, bel⟩
  · have HP : Hid (mirrorRes d f ss = (d, f, ss.reverse)) := by unfold Hid mirrorRes; rw [hh]; rfl
    clear hl
    go_enter Try.func22, Try.ntmps22
    go_wp2_with (first | (go_at_call 51; refine (s_CardOk _ _ _ _ _ ss _ (hS2.more (by simp; omega))).mono ?_; rintro e w1 ⟨rfl, hb1⟩; obtain ⟨hcb, hfb⟩ := bcell hb1; have hz_w1_0 : w.heap.size < w1.heap.size := (by have hzz := hb1.size; (try simp at hzz); omega); have hy_w1_0 := Nat.le_of_lt hz_w1_0; have hz_w1_1 : w.heap.size + 1 < w1.heap.size := (by have hzz := hb1.size; (try simp at hzz); omega); have hy_w1_1 := Nat.le_of_lt hz_w1_1))
    obtain ⟨i0, hi0, hz0, hz1, hz2⟩ := info_parts info_str
    go_loopw [4] (fun k wr => ∃ (j : Nat) (A' : Option Addr) (c' : Nat), j ≤ n ∧ k = .int .i64 ((n : Int) - 1 - j) ∧ wr.heap[w1.heap.size]? = some (.cells #[.int .i64 d, .int .i64 f, .slice A' j c'] 26 (0, 0)) ∧
      wr.ownsRow (w1.heap.size + 1) 9 1 (.slice A' j c') j ((ss.reverse.take j).map Value.string) ∧ Below w1.heap.size w1 wr) (fun k _ => (intOf k + 1).toNat)
    case atStart => exact ⟨0, none, 0, Nat.zero_le _, by go_num, blk_new _ _, World.ownsRow_nil _ _ _ _, bel⟩
    case round =>
      obtain ⟨j, A', c', hj, rfl, hblk, hown, hb⟩ := hrel
      have hbs := hb.size
      have hX := blk_lt hblk
      by_cases hlt : j < n
      · obtain ⟨hk', ad, rfl, hab, hcw, hsb⟩ := hS.at_ (k := n - 1 - j) (by omega)
        have hcA : wr.cell? (ad.add (n - 1 - j)) = some (.string ss[n - 1 - j]) := by
          rw [Below.cell (B := B) (w := w) bel (by rw [block_of_add]; exact hab)]; exact hcw
        have hcb0 : wr.cell? ⟨w.heap.size, 2, none⟩ = some (.slice (some ad) n c) := by
          exact (blk_cells (blk_below (blk_below (box_first _ _ _) hb1 (by simp; omega)) hb (by omega)) 2).1
        obtain ⟨hx2, hf2⟩ := blk_cells hblk 2
        have hx2' : wr.cell? ⟨w1.heap.size, 2, none⟩ = some (.slice A' j c') := hx2
        clear hx2
        have hidx : ((n : Int) - 1 - (j : Int)).toNat = n - 1 - j := by omega
        have hi1 : (0 : Int) ≤ (n : Int) - 1 - (j : Int) := by omega
        have hi2 : (n : Int) - 1 - (j : Int) < (n : Int) := by omega
        have hi3 : (j : Int) ≤ (n : Int) - 1 := by omega
        clear hcb hfb
        have hone : ∀ u ∈ [Value.string ss[n - 1 - j]], u.oneCell' = true := by intro u hu; simp at hu; subst hu; rfl
        go_wp2
        go_region_law (first | (refine step_append_sl _ rfl (.tmp 23) (.tmp 29) _ rfl (w1.heap.size + 1) 9 i0 _ 1 16 Try.underlying24 hi0 hz0 hz1 hz2 rfl (by omega) (.slice A' j c') j _ rfl ((hown.alloc _).drew) (wr.heap.size + 1) (some ⟨wr.heap.size, 0, none⟩) 1 1 [Value.string ss[n - 1 - j]] rfl (reads_one _ _).drew hone ?_ ?_ ?_ ?_; (unfold maxLen; omega); omega; (simp; omega); intro A2 c2 w3 ho3 hb3; obtain ⟨hcb3, hfb3⟩ := bcellB hb3))
        all_goals
          go_wp2
          go_roundw
          case rel =>
            have hbl := blk_set (blk_below (blk_drew (blk_alloc hblk _)) hb3 (by omega)) 2 (.slice A2 (j + 1) c2)
            have hst : (ss.reverse.take j).map Value.string ++ [Value.string ss[n - 1 - j]] = (ss.reverse.take (j + 1)).map Value.string := by
              have hl := HL.out
              subst hl
              rw [rev_take ss j hlt, List.map_append]; rfl
            rw [hst] at ho3
            exact ⟨j + 1, A2, c2, by omega, by go_num, hbl, ownsRow_setCell_below ho3 (by simp) _, bel⟩
          case measure => simp [intOf]; omega
      · have hjn : j = n := by omega
        subst hjn
        obtain ⟨hx0, _⟩ := blk_cells hblk 0
        obtain ⟨hx1, _⟩ := blk_cells hblk 1
        obtain ⟨hx2, _⟩ := blk_cells hblk 2
        have hr0 := blk_cells (blk_below (blk_below (box_second w (.cells #[.int .i64 d, .int .i64 f, .slice A j c] 26) (.cells #[.int .i64 0, .int .i64 0, .slice none 0 0] 26)) hb1 (by simp)) hb (by omega))
        obtain ⟨ha0, hf0⟩ := hr0 0
        obtain ⟨ha1, hf1⟩ := hr0 1
        obtain ⟨ha2, hf2⟩ := hr0 2
        have ht : ss.reverse.take j = ss.reverse := List.take_of_length_le (by rw [List.length_reverse]; have := HL.out; omega)
        rw [ht] at hown
        have HO := hide hown
        clear hown ht hr0 hcb hfb
        go_wp2
        refine bodyPost_ret (v := .agg #[.int .i64 d, .int .i64 f, .slice A' j c']) (by simp [results, Try.results22, go_sem, *]) rfl ?_
        rw [HP.out]
        unfold FreshCard
        dsimp only
        have hl := HL.out
        subst hl
        rw [List.length_reverse]
        exact ⟨A', c', rfl, own_up (unhide HO) upr (by first | exact Nat.le_refl _ | (simp; done) | omega | (simp; omega) | exact (‹_ ∧ _ ∧ Below _ _ _›).2.2.size), bel⟩
end Go.Proofs.Ytccjedongkokoaa
namespace Go.Proofs.Ytccjedongkokoaa
open Go.ChangeShapes Go.WideShapes Go.ChangeAt Go.RowKit
set_option linter.unusedVariables false
set_option maxRecDepth 10000
section
variable {α : Type} {f : α → List Value} {k : Nat}
theorem flat_len (hf : ∀ x, (f x).length = k) (l : List α) : (l.flatMap f).length = l.length * k := by
  induction l with
  | nil => simp
  | cons x l ih => rw [List.flatMap_cons, List.length_append, hf, ih, List.length_cons, Nat.add_mul, Nat.one_mul, Nat.add_comm]
theorem flat_get (hf : ∀ x, (f x).length = k) (l : List α) (i j : Nat) (hi : i < l.length) (hj : j < k) : (l.flatMap f)[i * k + j]? = (f l[i])[j]? := by
  induction l generalizing i with
  | nil => simp at hi
  | cons x l ih =>
    rw [List.flatMap_cons]
    cases i with
    | zero => rw [List.getElem?_append_left (by rw [hf]; omega)]; simp
    | succ i =>
      rw [List.getElem?_append_right (by rw [hf, Nat.add_mul]; omega), hf]
      rw [show (i + 1) * k + j - k = i * k + j by rw [Nat.add_mul]; omega]
      rw [ih i (by simpa using hi)]; simp
end
theorem add_next (a : Addr) (m j : Nat) (hj : 0 < j) : a.add (m + j) = ⟨(a.add m).block, (a.add m).off + j, none⟩ := by
  unfold Addr.add
  rw [if_neg (by omega)]
  by_cases h : m = 0
  · subst h; simp
  · rw [if_neg h]; simp [Nat.add_assoc]
theorem keep_ofP {B : Nat} {a W : World} (h : Below B a W) : (∀ p : Addr, p.block < B → W.cell? p = a.cell? p) ∧ (∀ p : Addr, p.block < B → W.frozen? p = a.frozen? p) ∧ Below B a W :=
  ⟨fun _ hb => h.cell hb, fun _ hb => h.frozen hb, h⟩
theorem own_cellk {w : World} {base size : Nat} {e : TypeId} {g n c : Nat} {xs : List Value} (h : w.ownsRow base e size (.slice (some ⟨g, 0, none⟩) n c) n xs) (j : Nat) (hj : j < n * size) : ∃ u, w.cell? ⟨g, j, none⟩ = some u := by
  have hl := h.1
  rw [h.cellAt j hj, List.getElem?_eq_getElem (by omega)]
  exact ⟨_, rfl⟩
def reps (zs : List Value) (n : Nat) : List Value := (List.replicate n zs).flatten
theorem reps_len (zs : List Value) (n : Nat) : (reps zs n).length = n * zs.length := by simp [reps]
theorem reps_succ (zs : List Value) (n : Nat) : reps zs (n + 1) = zs ++ reps zs n := by simp [reps, List.replicate_succ]
theorem reps_get (zs : List Value) (n i : Nat) (hi : i < n * zs.length) : (reps zs n)[i]? = zs[i % zs.length]? := by
  induction n generalizing i with
  | zero => omega
  | succ n ih =>
    rw [reps_succ]
    by_cases h : i < zs.length
    · rw [List.getElem?_append_left h, Nat.mod_eq_of_lt h]
    · rw [List.getElem?_append_right (by omega), ih (i - zs.length) (by rw [Nat.add_mul] at hi; omega)]
      congr 1
      rw [Nat.mod_eq_sub_mod (a := i) (by omega)]
theorem made_reps (zs : List Value) (n : Nat) (hz : 0 < zs.length) : (madeCells zs.toArray (n * zs.length)).toList = reps zs n := by
  apply List.ext_getElem?
  intro i
  by_cases h : i < n * zs.length
  · rw [reps_get zs n i h]
    have hm : i % zs.length < zs.length := Nat.mod_lt _ hz
    simp [madeCells, h, hm]
  · rw [List.getElem?_eq_none (by simp [madeCells]; omega), List.getElem?_eq_none (by rw [reps_len]; omega)]
structure PBox where
  (F L T : Int)
def boxCells (s : PBox) : List Value := [.int .i64 s.F, .int .i64 s.L, .int .i64 s.T]
structure Boxes (w : World) (B : Nat) (A : Option Addr) (n : Nat) (l : List PBox) : Prop where
  rd : Reads w B 3 A n (l.flatMap boxCells)
  nb : n ≤ 16777216
section
variable {w w' : World} {B B' n : Nat} {A : Option Addr} {l : List PBox}
end
structure PStep where
  (K F L T I : Int)
  (b a : ByteArray)
def stepCells (s : PStep) : List Value := [.int .i64 s.K, .int .i64 s.F, .int .i64 s.L, .int .i64 s.T, .int .i64 s.I, .string s.b, .string s.a]
structure Steps (w : World) (B : Nat) (A : Option Addr) (n : Nat) (l : List PStep) : Prop where
  rd : Reads w B 7 A n (l.flatMap stepCells)
  nb : n ≤ 16777216
  sb : ∀ s ∈ l, s.b.size ≤ 16777216 ∧ s.a.size ≤ 16777216
section
variable {w w' : World} {B B' n : Nat} {A : Option Addr} {l : List PStep}
end
structure PPaper where
  (k g s : Int)
def paperCells (s : PPaper) : List Value := [.int .i64 s.k, .int .i64 s.g, .int .i64 s.s]
structure Papers (w : World) (B : Nat) (A : Option Addr) (n : Nat) (l : List PPaper) : Prop where
  rd : Reads w B 3 A n (l.flatMap paperCells)
  nb : n ≤ 16777216
section
variable {w w' : World} {B B' n : Nat} {A : Option Addr} {l : List PPaper}
end
end Go.Proofs.Ytccjedongkokoaa
namespace Go.Proofs.Ytccjedongkokoaa
open Go.ChangeShapes Go.WideShapes Go.ChangeAt Go.RowKit
set_option linter.unusedVariables false
set_option maxRecDepth 10000
section
variable {H : Type} {enc : TypeId × Value → H} {P : Program}
theorem post_of_below {f : Func} {s : ChangeSpec} {apart fresh handsOn again : Bool} {W W' : World} {args : Array Value} {v : Value} {ds gs : List (DataW H)} {before pa pv : List MemPlace}
    (hW : DataW.Whole enc P f.params.toList s.vars apart W args.toList ds gs before)
    (hres : ∀ (b : Nat) (sp : Nat → Bool) (hd : Bool), DataW.TrodAll enc P W' b sp hd f.resultTypes.toList (v.resultList f.resultTypes.size) (s.fn H (ds ++ gs)).results [])
    (hargs : ∀ sp : Nat → Bool, (∀ p ∈ before, sp p.block = true) → DataW.TrodAll enc P W' 0 sp true f.params.toList args.toList (s.fn H (ds ++ gs)).args pa)
    (hvars : ∀ sp : Nat → Bool, (∀ p ∈ before, sp p.block = true) → DataW.TrodVars enc P W' sp s.vars (s.fn H (ds ++ gs)).vars pv)
    (hps : before = pa ++ pv) (hb : Below W.heap.size W W')
    (hok : ∀ (j : Nat) (t : TypeId) (r : Value), f.resultTypes[j]? = some t → (v.resultList f.resultTypes.size)[j]? = some r → Value.okWide P W' .any 0 t r) :
    s.post enc P f apart fresh handsOn again W args v W' := by
  have hlt : ∀ p ∈ before, p.block < W.heap.size := fun p hp => hW.lt p hp
  have hold : ∀ p ∈ before, (fun b => decide (b < W.heap.size)) p.block = true := fun p hp => by simpa using hlt p hp
  refine ⟨ds, gs, before, [], pa, pv, hW, hres _ _ _, hargs _ hold, hvars _ hold, World.keptBut_mono (fun p hp => ⟨hp, ?_⟩) (hb.frame (· ∈ before)), fun _ => ?_⟩
  · rw [hps, List.mem_append] at hp
    exact Or.inr hp
  · obtain ⟨_, _, _, _, _, hz, hn⟩ := hW
    refine ⟨hok, _, _, ([] ++ pa) ++ pv, ⟨[] ++ pa, pv, trodAll_append (hargs _ (fun _ _ => rfl)) (hres _ _ _), hvars _ (fun _ _ => rfl), rfl, ?_, ?_⟩, ?_⟩
    · intro b off hp
      have hin : MemPlace.cell b off ∈ before := by rw [hps]; simpa using hp
      rw [hb.frozen (hlt _ hin)]
      exact hz b off hin
    · intro ha
      have := hn ha
      rw [hps] at this
      simpa using this
    · intro p hp _
      rw [hps]
      simpa using hp
end
theorem own0 : ownKnob Try.prog.godebug = none := by kernel_rfl
theorem laid0 : laidOutB Try.prog = true := by kernel_rfl
theorem trodAll_stays {H : Type} {enc : TypeId × Value → H} {W W' : World} (hb : Below W.heap.size W W') {sp : Nat → Bool} :
    ∀ (ts : List TypeId) (vs : List Value) (ds : List (DataW H)) (ps : List MemPlace), (∀ t ∈ ts, Try.prog.readableRec t = true ∧ t < Try.prog.types.size) →
      DataW.TrodAll enc Try.prog W 0 (fun _ => true) true ts vs ds ps → (∀ p ∈ ps, p.block < W.heap.size) → (∀ p ∈ ps, sp p.block = true) → DataW.TrodAll enc Try.prog W' 0 sp true ts vs ds ps
  | [], vs, ds, ps, _, h, _, _ => by
    cases vs <;> cases ds <;> simp [DataW.TrodAll] at h ⊢
    exact h
  | t :: ts, vs, ds, ps, hr, h, hlt, hsp => by
    obtain ⟨v, vs', d, ds', p, q, rfl, rfl, rfl, h1, h2⟩ := trodAll_cons h
    have hr0 := hr t (List.mem_cons_self)
    exact ⟨p, q, WideElems.Trod_stays laid0 hr0.1 hr0.2 h1 (fun x hx => hb.same (hlt x (List.mem_append_left _ hx))) (fun x hx => hsp x (List.mem_append_left _ hx)),
      trodAll_stays hb ts vs' ds' q (fun t' ht => hr t' (List.mem_cons_of_mem _ ht)) h2 (fun x hx => hlt x (List.mem_append_right _ hx)) (fun x hx => hsp x (List.mem_append_right _ hx)), rfl⟩
theorem post_law {H : Type} {enc : TypeId × Value → H} {f : Func} {s : ChangeSpec} {W W' : World} {args : Array Value} {ds gs : List (DataW H)} {before : List MemPlace}
    (hW : DataW.Whole enc Try.prog f.params.toList s.vars false W args.toList ds gs before) (hv : s.vars = []) (hr : ∀ t ∈ f.params.toList, Try.prog.readableRec t = true ∧ t < Try.prog.types.size)
    (hf : f.resultTypes = #[4]) (hfn : ds.length = f.params.size → s.fn H (ds ++ []) = { results := [.lit (.bool true)], args := ds }) (hb : Below W.heap.size W W') :
    s.post enc Try.prog f false true false false W args (.bool true) W' := by
  have hW' := hW
  obtain ⟨p, q, hA0, hV, hbe, hfz, hnd⟩ := hW
  rw [hv] at hV
  obtain ⟨rfl, rfl⟩ := trodVars_none hV
  simp only [List.append_nil] at hbe
  subst hbe
  have hlen : ds.length = f.params.size := by
    have : ∀ (ts : List TypeId) (vs : List Value) (ds : List (DataW H)) (ps : List MemPlace), DataW.TrodAll enc Try.prog W 0 (fun _ => true) true ts vs ds ps → ds.length = ts.length := by
      intro ts
      induction ts with
      | nil => intro vs ds ps h; cases vs <;> cases ds <;> simp [DataW.TrodAll] at h ⊢
      | cons t ts ih =>
        intro vs ds ps h
        obtain ⟨v, vs', d, ds', p, q, rfl, rfl, rfl, h1, h2⟩ := trodAll_cons h
        simp [ih _ _ _ h2]
    have h := this _ _ _ _ hA0
    simpa using h
  have hfn' := hfn hlen
  refine post_of_below (pa := before) (pv := []) (gs := []) hW' ?_ ?_ ?_ (by simp) hb ?_
  · intro b sp hd
    rw [hfn', hf]
    exact trodAll_mk1 (shut_bool Try.underlying4 true)
  · intro sp hsp
    rw [hfn']
    exact trodAll_stays hb _ _ _ _ hr hA0 (fun x hx => hW'.lt x hx) hsp
  · intro sp _
    rw [hv, hfn']
    rfl
  · intro j t r ht hr2
    rw [hf] at ht hr2
    have hj : j = 0 := by
      rcases Nat.eq_zero_or_pos j with h | h
      · exact h
      · rw [Array.getElem?_eq_none (by simp; omega)] at ht; cases ht
    subst hj
    simp at ht hr2
    subst ht
    have : r = .bool true := by
      simp [Value.resultList] at hr2; exact hr2.symm
    subst this
    exact okWide_bool_mk Try.underlying4 true
end Go.Proofs.Ytccjedongkokoaa
namespace Go.Proofs.Ytccjedongkokoaa
open Go.ChangeShapes Go.WideShapes Go.ChangeAt Go.RowKit
set_option linter.unusedVariables false
set_option maxRecDepth 10000
theorem cells_str : Try.prog.cellsOf 9 = 1 := by kernel_rfl
theorem reads_strings {H : Type} {enc : TypeId × Value → H} {W : World} {n : Nat} {cs : List Value} {x : DataW H × List MemPlace} (h : DataW.trod enc Try.prog W 0 (fun _ => true) true n 24 cs = some x) :
    ∃ (A : Option Addr) (len c : Nat) (ss : List ByteArray), cs = [.slice A len c] ∧ Reads W W.heap.size 1 A len (ss.map Value.string) ∧ len ≤ maxLen ∧ ∀ s ∈ ss, s.size ≤ maxLen := by
  rcases open_strings Try.underlying24 Try.underlying9 cells_str h with ⟨hcs, _⟩ | ⟨a, len, cap, ss, hcs, _, hl, hm, hz, hx, hcell, hws⟩
  · exact ⟨none, 0, 0, [], hcs, Reads.none_, by unfold maxLen; omega, fun s hs => by cases hs⟩
  · refine ⟨some a, len, cap, ss.take len, hcs, ⟨?_, fun h0 => ⟨a, rfl, ?_, ?_⟩⟩, by omega, fun s hs => hws s (List.mem_of_mem_take hs)⟩
    · simp at hz
      simp [List.length_take]; omega
    · have h1 := hcell 0 (by simp at hz; omega)
      have h2 := World.block_lt_of_cell? W _ h1
      rwa [block_of_add] at h2
    · intro j u hu
      rw [List.getElem?_map] at hu
      by_cases hj : j < len
      · have h1 := hcell j (by simp at hz; omega)
        rw [h1]
        rw [List.getElem?_take, if_pos hj] at hu
        have hjl : j < ss.length := by simp at hz; omega
        rw [List.getElem?_eq_getElem hjl] at hu
        simp [List.getD, List.getElem?_eq_getElem hjl] at hu ⊢
        exact hu
      · rw [List.getElem?_take, if_neg hj] at hu
        cases hu
end Go.Proofs.Ytccjedongkokoaa
namespace Go.Proofs.Ytccjedongkokoaa
open Go.ChangeShapes Go.WideShapes Go.ChangeAt Go.RowKit
set_option linter.unusedVariables false
set_option maxRecDepth 10000
def mkBox (k : Int) : List Value := [.int .i64 (k), .int .i64 (k + 1), .int .i64 (k + 1 + 1)]
def marksBox (k : Int) (n : Nat) : List Value := (List.range n).flatMap fun (i : Nat) => mkBox (k + 3 * (i : Int))
end Go.Proofs.Ytccjedongkokoaa
namespace Go.Proofs.Ytccjedongkokoaa
open Go.ChangeShapes Go.WideShapes Go.ChangeAt Go.RowKit
set_option linter.unusedVariables false
set_option maxRecDepth 10000
def szStep (b a : ByteArray) (left : Int) : Int := if left - b.size < 0 then -1 else if left - b.size - a.size < 0 then -1 else left - b.size - a.size
theorem trod_field {H : Type} {enc : TypeId × Value → H} {P : Program} {w : World} {base : Nat} {spare : Nat → Bool} {held : Bool} {t : TypeId} {fs : Array Field} {fuel : Nat} {cs : List Value} {x : DataW H × List MemPlace}
    (ht : P.underlying t = some (.struct fs)) (h : DataW.trod enc P w base spare held fuel t cs = some x) (i : Nat) (f : Field) (hf : fs[i]? = some f) {c : Nat} (hc : P.cellsOf f.type = c) :
    ∃ n y, DataW.trod enc P w base spare held n f.type ((cs.drop f.offset).take c) = some y := by
  obtain ⟨xs, n, _, _, _, hlen, hg⟩ := DataW.trod_struct ht h
  have h1 := hg i f hf
  have hi : i < fs.size := (Array.getElem?_eq_some_iff.1 hf).1
  rw [List.getElem?_eq_getElem (by omega), hc] at h1
  exact ⟨n, _, h1⟩
end Go.Proofs.Ytccjedongkokoaa
namespace Go.Proofs.Ytccjedongkokoaa
open Go.ChangeShapes Go.WideShapes Go.ChangeAt Go.RowKit Go.Deep
set_option linter.unusedVariables false
set_option maxRecDepth 10000
theorem reads_rows {α : Type} {f : α → List Value} {k : Nat} (hf : ∀ x, (f x).length = k) (hk : 0 < k) {Q : α → Prop} {H : Type} {enc : TypeId × Value → H} {P : Program} {W : World} {t e : TypeId} {fuel : Nat} {cs : List Value} {x : DataW H × List MemPlace}
    (ht : P.underlying t = some (.slice e)) (hC : P.cellsOf e = k) (h : DataW.trod enc P W 0 (fun _ => true) true fuel t cs = some x)
    (hel : ∀ n cs' y, cs'.length = k → DataW.trod enc P W 0 (fun _ => true) true n e cs' = some y → ∃ b : α, cs' = f b ∧ Q b) :
    ∃ (A : Option Addr) (n c : Nat) (l : List α), cs = [.slice A n c] ∧ Reads W W.heap.size k A n (l.flatMap f) ∧ l.length = n ∧ n ≤ maxLen ∧ ∀ b ∈ l, Q b := by
  rcases open_slice ht h with ⟨hcs, _⟩ | ⟨a, len, cap, m, n, D, Pl, hcs, _, hl, hm, hmm, _, hi⟩
  · exact ⟨none, 0, 0, [], hcs, ⟨by simp, fun h0 => absurd h0 (by omega)⟩, rfl, by unfold maxLen; omega, fun b hb => by cases hb⟩
  · have hlm : len ≤ m := by rw [hmm]; simp; exact hl
    have hb : ∀ i, i < len → ∃ b : α, (∀ j, j < k → W.cell? (a.add (i * k + j)) = (f b)[j]?) ∧ Q b := by
      intro i hil
      obtain ⟨cs', hc, htr⟩ := hi i (by omega)
      rw [hC] at hc
      obtain ⟨_, hcl, hat⟩ := World.cells?_some hc
      obtain ⟨b, rfl, hq⟩ := hel _ _ _ hcl htr
      exact ⟨b, fun j hj => by rw [← add_of_add]; exact hat j hj, hq⟩
    have hlist : ∀ p, p ≤ len → ∃ l : List α, l.length = p ∧ (∀ i (hi : i < l.length), (∀ j, j < k → W.cell? (a.add (i * k + j)) = (f l[i])[j]?) ∧ Q l[i]) := by
      intro p
      induction p with
      | zero => intro _; exact ⟨[], rfl, fun i hi => by simp at hi⟩
      | succ p ih =>
        intro hp
        obtain ⟨l, hll, hlc⟩ := ih (by omega)
        obtain ⟨b, hbc, hq⟩ := hb p (by omega)
        refine ⟨l ++ [b], by simp [hll], fun i hi => ?_⟩
        by_cases hip : i < l.length
        · rw [List.getElem_append_left hip]; exact hlc i hip
        · have he : i = l.length := by simp at hi; omega
          subst he
          rw [List.getElem_append_right (Nat.le_refl _)]
          simp only [Nat.sub_self, List.getElem_cons_zero]
          rw [hll]; exact ⟨hbc, hq⟩
    obtain ⟨l, hll, hlc⟩ := hlist len (Nat.le_refl _)
    refine ⟨some a, len, cap, l, hcs, ⟨by rw [flat_len hf, hll], fun h0 => ⟨a, rfl, ?_, ?_⟩⟩, hll, by omega, fun b hb => ?_⟩
    · have h1 := (hlc 0 (by omega)).1 0 hk
      have hs : ((f (l[0]'(by omega)))[0]?) = some ((f (l[0]'(by omega)))[0]'(by rw [hf]; exact hk)) := List.getElem?_eq_getElem _
      rw [hs] at h1
      have h2 := World.block_lt_of_cell? W _ h1
      rwa [block_of_add] at h2
    · intro j u hu
      have hj : j < len * k := by
        have h1 := (List.getElem?_eq_some_iff.1 hu).1
        rw [flat_len hf, hll] at h1; exact h1
      have hi1 : j / k < l.length := by rw [hll]; exact Nat.div_lt_of_lt_mul (by rw [Nat.mul_comm]; exact hj)
      have hr : j % k < k := Nat.mod_lt _ hk
      have hjd : j = j / k * k + j % k := by rw [Nat.mul_comm]; exact (Nat.div_add_mod j k).symm
      rw [hjd] at hu ⊢
      rw [flat_get hf l _ _ hi1 hr] at hu
      rw [(hlc _ hi1).1 _ hr, hu]
    · obtain ⟨i, hi, rfl⟩ := List.mem_iff_getElem.1 hb
      exact (hlc i hi).2
end Go.Proofs.Ytccjedongkokoaa
namespace Go.Proofs.Ytccjedongkokoaa
open Go.ChangeShapes Go.WideShapes Go.ChangeAt Go.RowKit
set_option linter.unusedVariables false
set_option maxRecDepth 10000
section
variable {w w' : World} {base bg bx n m size size2 : Nat} {e e2 : TypeId} {v vg vx : Value} {xs : List Value}
end
def szN (n : Nat) (left : Int) : Int := if left - n < 0 then -1 else left - n
end Go.Proofs.Ytccjedongkokoaa
namespace Go.Proofs.Ytccjedongkokoaa
open Go.ChangeShapes Go.WideShapes Go.ChangeAt Go.RowKit
set_option linter.unusedVariables false
set_option maxRecDepth 10000
def rowTys : List TypeId := [9
  , 58
  , 39
  , 3
  , 64
  ]
def boxAt (w : World) (k : Nat) : Prop := ∃ cs t fr, w.heap[k]? = some (.cells cs t fr) ∧ t ∉ rowTys
structure Within (lo hi : Nat) (w w' : World) : Prop where
  os : w'.os = w.os
  tape : w'.tape = w.tape
  output : w'.output = w.output
  size : w.heap.size ≤ w'.heap.size
  block : ∀ k, k < w.heap.size → (k < lo ∨ hi ≤ k ∨ boxAt w k) → w'.heap[k]? = w.heap[k]?
section
variable {lo hi lo' hi' : Nat} {w w' a b c : World}
theorem Within.refl (lo hi : Nat) (w : World) : Within lo hi w w := ⟨rfl, rfl, rfl, Nat.le_refl _, fun _ _ _ => rfl⟩
theorem Within.trans (h : Within lo hi a b) (k : Within lo hi b c) : Within lo hi a c :=
  ⟨k.os.trans h.os, k.tape.trans h.tape, k.output.trans h.output, Nat.le_trans h.size k.size, fun i hi h2 => by
    have h3 := h.block i hi h2
    refine (k.block i (Nat.lt_of_lt_of_le hi h.size) ?_).trans h3
    rcases h2 with h2 | h2 | ⟨cs, t, fr, h2, h4⟩
    · exact .inl h2
    · exact .inr (.inl h2)
    · exact .inr (.inr ⟨cs, t, fr, h3.trans h2, h4⟩)⟩
theorem Within.of_below (h : Below w.heap.size w w') : Within lo hi w w' := ⟨h.os, h.tape, h.output, h.size, fun i hi _ => h.block i hi⟩
theorem Within.of_grown {base size n : Nat} {e : TypeId} {v : Value} {xs : List Value} (ho : w.ownsRow base e size v n xs) (he : e ∈ rowTys) (hg : w.grownBy w' v.ownBlock) (h1 : lo ≤ base) (h2 : ∀ k, v.ownBlock = some k → k < hi) : Within lo hi w w' :=
  ⟨hg.os, hg.tape, hg.output, hg.size, fun i hi h3 => hg.block i hi (fun e1 => by
    rcases h3 with h3 | h3 | ⟨cs, t, fr, h3, h4⟩
    · have := (ho.lt i e1.symm).1; omega
    · have := h2 i e1.symm; omega
    · rcases ho.2 with ⟨rfl, _⟩ | ⟨g, cap, cur, rfl, _, hgg, _⟩
      · simp [Value.ownBlock] at e1
      · simp [Value.ownBlock] at e1
        subst e1
        rw [h3] at hgg
        injection hgg with q; injection q with _ q
        subst q
        exact h4 he)⟩
theorem Within.below {B : Nat} (h : Within lo hi w w') (hB : B ≤ lo) (hs : B ≤ w.heap.size) : Below B w w' :=
  ⟨h.os, h.tape, h.output, h.size, fun i hi => h.block i (by omega) (.inl (by omega))⟩
theorem own_within {base size n : Nat} {e : TypeId} {v : Value} {xs : List Value} (ho : w.ownsRow base e size v n xs) (h : Within lo hi w w') (hx : ∀ k, v.ownBlock = some k → k < lo ∨ hi ≤ k) : w'.ownsRow base e size v n xs := by
  refine ⟨ho.1, ?_⟩
  rcases ho.2 with hn | ⟨g, cap, cur, rfl, hb, hg, rest⟩
  · exact .inl hn
  · exact .inr ⟨g, cap, cur, rfl, hb, (h.block g (blk_lt hg) (by have := hx g rfl; omega)).trans hg, rest⟩
theorem own_ne_type {b1 b2 s1 s2 n1 n2 : Nat} {e1 e2 : TypeId} {v1 v2 : Value} {x1 x2 : List Value} (h1 : w.ownsRow b1 e1 s1 v1 n1 x1) (h2 : w.ownsRow b2 e2 s2 v2 n2 x2) (hne : e1 ≠ e2) : ∀ k, v1.ownBlock = some k → v2.ownBlock ≠ some k := by
  intro k hk hk2
  rcases h1.2 with ⟨rfl, _⟩ | ⟨g1, _, _, rfl, _, hg1, _⟩
  · simp [Value.ownBlock] at hk
  · rcases h2.2 with ⟨rfl, _⟩ | ⟨g2, _, _, rfl, _, hg2, _⟩
    · simp [Value.ownBlock] at hk2
    · simp [Value.ownBlock] at hk hk2
      subst hk
      subst hk2
      rw [hg1] at hg2
      injection hg2 with h; injection h with _ h
      exact hne h
theorem own_grown {base size n : Nat} {e : TypeId} {v : Value} {xs : List Value} {row : Option Nat} (ho : w.ownsRow base e size v n xs) (hg : w.grownBy w' row) (hx : ∀ k, v.ownBlock = some k → row ≠ some k) : w'.ownsRow base e size v n xs := by
  refine ho.kept hg ?_
  cases hv : v.ownBlock with
  | none => exact .inl rfl
  | some k => exact .inr (fun he => hx k hv he.symm)
structure Boxy (w w' : World) : Prop where
  size : w.heap.size ≤ w'.heap.size
  block : ∀ k, k < w.heap.size → ¬ boxAt w k → w'.heap[k]? = w.heap[k]?
theorem boxy {w w' : World} (h : Boxy w w' := by repeat (first | (with_reducible exact Boxy.refl _) | (with_reducible refine Boxy.drew ?_) | (with_reducible refine Boxy.drewN ?_ _) | (with_reducible refine Boxy.alloc ?_ _) | ((with_reducible refine Boxy.setCell ?_ ?hbs _); (case hbs => first | (with_reducible exact .inl (by assumption)) | exact .inl (by assumption) | exact .inr (by simp) | exact .inr (by simp; omega))))) : Boxy w w' := h
end
structure OwnS (w : World) (lo hi : Nat) (A : Option Addr) (c : Nat) (ss : List ByteArray) : Prop where
  row : w.ownsRow lo 9 1 (.slice A ss.length c) ss.length (ss.map Value.string)
  top : ∀ k, (Value.slice A ss.length c).ownBlock = some k → k < hi
section
variable {lo hi lo' hi' : Nat} {w w' : World} {A : Option Addr} {c : Nat} {ss : List ByteArray}
theorem OwnS.below (ho : OwnS w lo hi A c ss) (hb : Below w.heap.size w w') : OwnS w' lo hi A c ss := ⟨own_below ho.row hb, ho.top⟩
theorem OwnS.wide (ho : OwnS w lo hi A c ss) (h1 : lo' ≤ lo) (h2 : hi ≤ hi') : OwnS w lo' hi' A c ss := ⟨own_base ho.row h1, fun k hk => by have := ho.top k hk; omega⟩
theorem OwnS.of (ho : w.ownsRow lo 9 1 (.slice A ss.length c) ss.length (ss.map Value.string)) (h : w.heap.size ≤ hi) : OwnS w lo hi A c ss := ⟨ho, fun k hk => by have := (ho.lt k hk).2; omega⟩
theorem OwnS.rd (ho : OwnS w lo hi A c ss) (hn : ss.length ≤ 16777216) (hs : ∀ s ∈ ss, s.size ≤ 16777216) : Strs w w.heap.size A ss.length ss := strs_of_own ho.row hn hs
end
end Go.Proofs.Ytccjedongkokoaa
namespace Go.Proofs.Ytccjedongkokoaa
open Go.ChangeShapes Go.WideShapes Go.ChangeAt Go.RowKit
set_option linter.unusedVariables false
set_option maxRecDepth 10000
def OkS (ss : List ByteArray) (m : Nat) : Prop := ss.length ≤ m ∧ ∀ s ∈ ss, s.size ≤ 16777216
def UCard (d f : Int) (ss : List ByteArray) (w : World) (e : Ending) (w' : World) : Prop :=
  ∃ A c, e = .returned (.agg #[.int .i64 d, .int .i64 f, .slice A ss.length c]) ∧ OwnS w' w.heap.size w'.heap.size A c ss ∧ Below w.heap.size w w'
def UCardB (d f : Int) (ss : List ByteArray) (b : Bool) (w : World) (e : Ending) (w' : World) : Prop :=
  ∃ A c, e = .returned (.tuple #[.agg #[.int .i64 d, .int .i64 f, .slice A ss.length c], .bool b]) ∧ OwnS w' w.heap.size w'.heap.size A c ss ∧ Below w.heap.size w w'
structure MkS (w : World) (lo hi : Nat) (A : Option Addr) (c : Nat) (k : Int) (n : Nat) : Prop where
  row : w.ownsRow lo 9 1 (.slice A n c) n (marks k n)
  top : ∀ k, (Value.slice A n c).ownBlock = some k → k < hi
section
variable {lo hi : Nat} {w w' : World} {A : Option Addr} {c n : Nat} {k : Int}
end
end Go.Proofs.Ytccjedongkokoaa
namespace Go.Proofs.Ytccjedongkokoaa
open Go.ChangeShapes Go.WideShapes Go.ChangeAt Go.RowKit
set_option linter.unusedVariables false
theorem own_capG {w : World} {base n c size : Nat} {e : TypeId} {A : Option Addr} {xs : List Value} (h : w.ownsRow base e size (.slice A n c) n xs) : n ≤ c ∧ c ≤ 9223372036854775807 := by
  rcases h.2 with ⟨hv, h0⟩ | ⟨g', cap, cur, hv, _, _, h1, h2, _⟩
  · injection hv with _ _ e3; omega
  · injection hv with _ _ e3; subst e3; unfold maxLen at h2; exact ⟨h1, by omega⟩
end Go.Proofs.Ytccjedongkokoaa
