/- Marks of items, what is held of them; a []Item and an Item argument of a law opened. -/
import Derived.Test.YtdddglihomchfaaGreatItem2
import Derived.Test.YtdddglihomchfaaGreatRows2
import Derived.Test.YtdddglihomchfaaGreatLift
namespace Go.Proofs.YtdddglihomchfaaGreat
open Go.ChangeShapes Go.WideShapes Go.ChangeAt Go.RowKit
set_option linter.unusedVariables false
set_option maxRecDepth 10000

def cntI : List PItem → Nat
  | [] => 0
  | x :: l => 3 + x.ss.length + cntI l
theorem cntI_append (a b : List PItem) : cntI (a ++ b) = cntI a + cntI b := by
  induction a with
  | nil => simp [cntI]
  | cons x r ih => simp only [List.cons_append, cntI, ih]; omega
theorem cntI_le' (m : Nat) (P : List PItem) (h : ∀ x ∈ P, x.ss.length ≤ m) : cntI P ≤ P.length * (3 + m) := by
  induction P with
  | nil => simp [cntI]
  | cons x l ih =>
    have h1 := h x List.mem_cons_self
    have h2 := ih (fun y hy => h y (List.mem_cons_of_mem _ hy))
    simp only [cntI, List.length_cons, Nat.add_mul, Nat.one_mul]
    omega
theorem cntI_le {P : List PItem} (h : OkItems P 1048576) : cntI P ≤ 1099514773504 := by
  have h1 := cntI_le' 1048576 P (fun x hx => (h.2 x hx).1)
  have h2 := h.1
  have h3 : P.length * (3 + 1048576) ≤ 1048576 * (3 + 1048576) := Nat.mul_le_mul_right _ h2
  omega
theorem cntI_le2 {P : List PItem} (h : OkItems P 16777216) : cntI P ≤ 281475027042304 := by
  have h1 := cntI_le' 16777216 P (fun x hx => (h.2 x hx).1)
  have h2 := h.1
  have h3 : P.length * (3 + 16777216) ≤ 16777216 * (3 + 16777216) := Nat.mul_le_mul_right _ h2
  omega
def mkSS (k : Int) (n : Nat) : List ByteArray := (List.range n).map fun i => markT (k + (i : Nat))
theorem mkSS_len (k : Int) (n : Nat) : (mkSS k n).length = n := by simp [mkSS]
theorem mkSS_marks (k : Int) (n : Nat) : (mkSS k n).map Value.string = marks k n := by simp [mkSS, marks]
def mkItem (k : Int) (r : RItem) : RItem := ⟨⟨markT k, k + 1, k + 1 + 1, mkSS (k + 1 + 1 + 1) r.x.ss.length⟩, r.A, r.c⟩
def mksI : Int → List RItem → List RItem
  | _, [] => []
  | k, r :: l => mkItem k r :: mksI (k + 3 + r.x.ss.length) l
theorem mksI_len (k : Int) (l : List RItem) : (mksI k l).length = l.length := by
  induction l generalizing k with
  | nil => rfl
  | cons r l ih => simp only [mksI, List.length_cons, ih]
theorem mksI_append (k : Int) (l : List RItem) (r : RItem) : mksI k (l ++ [r]) = mksI k l ++ [mkItem (k + cntI (plI l)) r] := by
  induction l generalizing k with
  | nil => simp [mksI, plI, cntI]
  | cons s l ih =>
    simp only [List.cons_append, mksI, ih]
    congr 3
    simp only [plI, List.map_cons, cntI]
    congr 1
    push_cast
    omega
theorem plI_take (L : List RItem) (j : Nat) : plI (L.take j) = (plI L).take j := by simp [plI, List.map_take]
theorem plI_append (a b : List RItem) : plI (a ++ b) = plI a ++ plI b := by simp [plI]
theorem cntI_take {L : List RItem} {j : Nat} (hj : j < L.length) : cntI (plI (L.take (j + 1))) = cntI (plI (L.take j)) + (3 + L[j].x.ss.length) := by
  rw [List.take_succ_eq_append_getElem hj, plI_append, cntI_append]; simp [plI, cntI]
theorem cntI_take_le (L : List RItem) (j : Nat) : cntI (plI (L.take j)) ≤ cntI (plI L) := by
  have : plI L = plI (L.take j) ++ plI (L.drop j) := by rw [← plI_append, List.take_append_drop]
  rw [this, cntI_append]; omega
theorem mksI_get (k : Int) (L : List RItem) (j : Nat) (hj : j < L.length) : ∃ h : j < (mksI k L).length, (mksI k L)[j] = mkItem (k + cntI (plI (L.take j))) L[j] := by
  have hl := mksI_len k L
  refine ⟨by omega, ?_⟩
  induction L generalizing k j with
  | nil => simp at hj
  | cons r l ih =>
    cases j with
    | zero => simp [mksI, plI, cntI]
    | succ j =>
      have hj2 : j < l.length := by simpa using hj
      have h := ih (k + 3 + r.x.ss.length) j hj2 (mksI_len _ _)
      simp only [mksI, List.getElem_cons_succ, List.take_succ_cons]
      rw [h]
      congr 1
      simp only [plI, List.map_cons, cntI]
      push_cast
      omega
theorem set3of4 (A C : List Value) (p : Nat) (hp : A.length = p) (z0 z1 z2 z3 c0 c1 c2 : Value) : ((((A ++ ([z0, z1, z2, z3] ++ C)).set (p) c0).set (p + 1) c1).set (p + 2) c2) = A ++ ([c0, c1, c2, z3] ++ C) := by
  subst hp
  induction A with
  | nil => rfl
  | cons a A ih =>
    simp only [List.cons_append, List.length_cons, Nat.add_right_comm _ 1, List.set_cons_succ]
    exact congrArg (a :: ·) (by simp)
set_option maxHeartbeats 3200000 in
theorem u_markItemS (P : List PItem) (A : Option Addr) (c : Nat) (L : List RItem) (lo hi : Nat) (k : Int) (w : World) (hO : OwnItems w lo hi A P.length c L) (hp : plI L = P) (hk0 : 0 ≤ k) (hk1 : k ≤ 2251799813685248) (hok : OkItems P 16777216) :
    Calls Tryz.prog 83 #[.slice A P.length c, .int .i64 k] w fun e w' => e = .returned (.int .i64 (k + (cntI P : Int))) ∧ OwnItems w' lo hi A P.length c (mksI k L) ∧ Within lo hi w w' := by
  have hcn := cntI_le2 hok
  have hn : P.length ≤ 16777216 := hok.1
  have hin : ∀ r ∈ L, r.x.ss.length ≤ 16777216 := fun r hr => (hok.2 r.x (by rw [← hp]; exact List.mem_map.2 ⟨r, hr, rfl⟩)).1
  have hl : L.length = P.length := by rw [← hp, plI_len]
  have HIN := hide hin
  have HP := Lib.hid hp
  obtain ⟨n, hnn⟩ : ∃ n, n = P.length := ⟨_, rfl⟩
  rw [← hnn] at hl hO hn ⊢
  have HL := Lib.hid hl
  have hcl := fun j => cntI_take_le L j
  rw [hp] at hcl
  have HCL := hide hcl
  clear hin hp hl hnn hok hcl
  go_enter Tryz.func83, Tryz.ntmps83
  go_wp2
  go_loopw [1, 5] (fun q i wr => ∃ (j : Nat) (x : Int), j ≤ n ∧ i = .int .i64 j ∧ q = .int .i64 x ∧ Hid (x = k + cntI (plI (L.take j))) ∧ OwnItems wr lo hi A n c (mksI k (L.take j) ++ L.drop j) ∧ Within lo hi w wr) (fun _ i _ => n - (intOf i).toNat)
  case atStart => exact ⟨0, k, Nat.zero_le _, rfl, rfl, by unfold Hid; simp [plI, cntI], by simpa [mksI] using hO, Within.refl _ _ _⟩
  case round =>
    obtain ⟨j, x, hj, rfl, rfl, HXK, hown, hW⟩ := hrel
    have hbx : k ≤ x ∧ x ≤ k + cntI P := by have h1 := HXK.out; have h2 := unhide HCL j; omega
    by_cases hlt : j < n
    · have hk1' : j < L.length := by have := HL.out; omega
      obtain ⟨g, cap, hv, hbg, hglt⟩ := hown.row.form (by omega)
      have hA : A = some ⟨g, 0, none⟩ := by injection hv
      subst hA
      clear hv
      have hsn := unhide HIN _ (List.getElem_mem hk1')
      have hdr : L.drop j = L[j] :: L.drop (j + 1) := List.drop_eq_getElem_cons hk1'
      rw [hdr] at hown
      have HTK := Lib.hid (List.take_succ_eq_append_getElem hk1')
      have HCT := Lib.hid (cntI_take hk1')
      generalize L[j] = r at *
      clear hdr
      have hM : (mksI k (L.take j)).length = j := by rw [mksI_len, List.length_take]; omega
      have HM := Lib.hid hM
      clear hM
      generalize hM1 : mksI k (L.take j) = M1 at *
      have HM1 := Lib.hid hM1
      clear hM1
      generalize hM2 : L.drop (j + 1) = M2 at *
      have HM2 := Lib.hid hM2
      clear hM2
      have hfl : (M1 ++ r :: M2).flatMap itemCells = M1.flatMap itemCells ++ (itemCells r ++ M2.flatMap itemCells) := by rw [List.flatMap_append, List.flatMap_cons]
      have hal : (M1.flatMap itemCells).length = j * 4 := by rw [flat_len itemCells_len, HM.out]
      have HFL := Lib.hid hfl
      have HAL := Lib.hid hal
      clear hfl hal
      have hjn : j * 4 + 4 ≤ n * 4 := by omega
      have hcell3 : wr.cell? ⟨g, j * 4 + 3, none⟩ = some (.slice r.A r.x.ss.length r.c) := by
        rw [hown.row.cellAt (j * 4 + 3) (by omega), HFL.out, List.getElem?_append_right (by have := HAL.out; omega), HAL.out, List.getElem?_append_left (by simp [itemCells])]
        simp [itemCells]
      go_wp2_with fail
      refine (l_markText x _ (by omega) (by omega)).mono ?_
      rintro e w1 ⟨rfl, hb1⟩
      have ho1 := hown.below hb1
      obtain ⟨u0, hu0⟩ := own_cellk ho1.row (j * 4) (by omega)
      have hf0 := ho1.row.frozenAt (j * 4)
      obtain ⟨u1, hu1⟩ := own_cellk ho1.row (j * 4 + 1) (by omega)
      have hf1 := ho1.row.frozenAt (j * 4 + 1)
      obtain ⟨u2, hu2⟩ := own_cellk ho1.row (j * 4 + 2) (by omega)
      have hf2 := ho1.row.frozenAt (j * 4 + 2)
      have hu3 : w1.cell? ⟨g, j * 4 + 3, none⟩ = some (.slice r.A r.x.ss.length r.c) := by rw [hb1.cell (p := ⟨g, j * 4 + 3, none⟩) hglt]; exact hcell3
      clear hcell3
      go_wp2_with fail
      have hst0 := ho1.row.stored (j * 4) (.string (markT x))
      have hst1 := hst0.1.stored (j * 4 + 1) (.int .i64 (x + 1))
      have hst2 := hst1.1.stored (j * 4 + 2) (.int .i64 (x + 1 + 1))
      have hgr := only_trans (only_trans (hst0.2) hst1.2) hst2.2
      have ho2 := hst2.1
      rw [HFL.out, show itemCells r = [.string r.x.nm, .int .i64 r.x.d, .int .i64 r.x.f, .slice r.A r.x.ss.length r.c] from rfl, set3of4 _ _ (j * 4) HAL.out] at ho2
      have hap := ho1.apart
      rw [List.pairwise_append, List.pairwise_cons] at hap
      have hput := ho1.put (r := ⟨⟨markT x, x + 1, x + 1 + 1, r.x.ss⟩, r.A, r.c⟩) (hi' := hi) (ho1.in_ r (List.mem_append_right _ List.mem_cons_self)) (Nat.le_refl _) (fun s hs k2 hk2 hk3 => by
        rcases List.mem_append.1 hs with h | h
        · exact hap.2.2 s h r List.mem_cons_self k2 hk2 hk3
        · exact hap.2.1.1 s h k2 hk3 hk2) hgr (by rw [List.flatMap_append, List.flatMap_cons]; exact ho2)
      have hWp := (hW.trans (Within.of_below hb1)).trans (Within.of_grown ho1.row (by decide) hgr (Nat.le_refl _) ho1.top)
      clear hst0 hst1 hst2 hgr ho2 hap
      have HIR := hput.in_ _ (List.mem_append_right _ List.mem_cons_self)
      refine (l_markStringS lo r.A _ r.c _ (x + 1 + 1 + 1) _ HIR.row (by omega) (by omega) hsn).mono ?_
      rintro e w2 ⟨rfl, ho3, hg3⟩
      have hin3 := hput.inner (ss := mkSS (x + 1 + 1 + 1) r.x.ss.length) (by rw [mkSS_len]) (by rw [mkSS_marks, mkSS_len]; exact ho3) hg3
      have hW2 := hWp.trans (Within.of_grown HIR.row (by decide) hg3 (Nat.le_refl _) HIR.top)
      clear hput hWp HIR ho3 hg3 hu0 hu1 hu2 hu3 hf0 hf1 hf2 ho1 hown hW hb1
      have HIN3 := hide hin3
      have HW2 := hide hW2
      clear hin3 hW2
      go_wp2
      go_roundw
      case rel =>
        refine ⟨j + 1, x + 1 + 1 + 1 + r.x.ss.length, by omega, by go_num, by go_num, ?_, ?_, unhide HW2⟩
        · unfold Hid
          rw [HCT.out, HXK.out]
          push_cast
          omega
        · have h := unhide HIN3
          rw [HTK.out, mksI_append, HM1.out, ← HXK.out, List.append_assoc, HM2.out]
          exact h
      case measure => simp [intOf]; omega
    · have hjn : j = n := by omega
      subst hjn
      have hd : L.drop j = [] := List.drop_eq_nil_of_le (by have := HL.out; omega)
      have ht : L.take j = L := List.take_of_length_le (by have := HL.out; omega)
      rw [hd, ht, List.append_nil] at hown
      have hx : x = k + cntI P := by have h := HXK.out; rw [ht, HP.out] at h; exact h
      have HX := Lib.hid hx
      have HO := hide hown
      clear hd ht hown hx HXK HCL hbx
      go_wp2
      go_ret
      exact ⟨ret_int HX.out, unhide HO, hW⟩
set_option maxHeartbeats 3200000 in
theorem u_heldItemS (P : List PItem) (A : Option Addr) (c : Nat) (L : List RItem) (lo hi : Nat) (k : Int) (w : World) (hO : OwnItems w lo hi A P.length c (mksI k L)) (hp : plI L = P) (hk0 : 0 ≤ k) (hk1 : k ≤ 2251799813685248) (hok : OkItems P 16777216) :
    Calls Tryz.prog 86 #[.slice A P.length c, .int .i64 k] w fun e w' => e = .returned (.int .i64 (k + (cntI P : Int))) ∧ Below w.heap.size w w' := by
  have hcn := cntI_le2 hok
  have hn : P.length ≤ 16777216 := hok.1
  have hin : ∀ r ∈ L, r.x.ss.length ≤ 16777216 := fun r hr => (hok.2 r.x (by rw [← hp]; exact List.mem_map.2 ⟨r, hr, rfl⟩)).1
  have hl : L.length = P.length := by rw [← hp, plI_len]
  have HIN := hide hin
  have HP := Lib.hid hp
  obtain ⟨n, hnn⟩ : ∃ n, n = P.length := ⟨_, rfl⟩
  rw [← hnn] at hl hO hn ⊢
  have HL := Lib.hid hl
  have hcl := fun j => cntI_take_le L j
  rw [hp] at hcl
  have HCL := hide hcl
  clear hin hp hl hnn hok hcl
  go_enter Tryz.func86, Tryz.ntmps86
  go_wp2
  go_loopw [1, 5] (fun q i wr => ∃ (j : Nat) (x : Int), j ≤ n ∧ i = .int .i64 j ∧ q = .int .i64 x ∧ Hid (x = k + cntI (plI (L.take j))) ∧ Below w.heap.size w wr) (fun _ i _ => n - (intOf i).toNat)
  case atStart => exact ⟨0, k, Nat.zero_le _, rfl, rfl, by unfold Hid; simp [plI, cntI], Below.refl _ _⟩
  case round =>
    obtain ⟨j, x, hj, rfl, rfl, HXK, hb⟩ := hrel
    have hzr := hb.size
    have hbx : k ≤ x ∧ x ≤ k + cntI P := by have h1 := HXK.out; have h2 := unhide HCL j; omega
    by_cases hlt : j < n
    · have hk1' : j < L.length := by have := HL.out; omega
      have hsn := unhide HIN _ (List.getElem_mem hk1')
      have hOr := hO.below hb
      obtain ⟨hk2, hget⟩ := mksI_get k L j hk1'
      obtain ⟨hk3, ad, hA, hab, hc0, hc1, hc2, hc3⟩ := itemCells_at (Reads.of_own hOr.row) hOr.len hlt
      subst hA
      have hsr := hOr.in_ _ (List.getElem_mem hk3)
      rw [hget] at hc0 hc1 hc2 hc3 hsr
      have HCT := Lib.hid (cntI_take hk1')
      rw [← HXK.out] at hc0 hc1 hc2 hc3 hsr
      generalize L[j] = r at *
      simp only [mkItem, mkSS_len] at hc0 hc1 hc2 hc3
      have hrow := hsr.row
      simp only [mkItem, mkSS_len, mkSS_marks] at hrow
      clear hget hsr
      have hq1 : (ad.add (j * 4)).block < wr.heap.size := by rw [block_of_add]; exact hab
      have hbm := beq_toList_true (rfl : markT x = markT x)
      go_wp2
      go_region_held3 (fun W => (∀ p : Addr, p.block < wr.heap.size → W.cell? p = (wr).cell? p) ∧ (∀ p : Addr, p.block < wr.heap.size → W.frozen? p = (wr).frozen? p) ∧ Below (wr.heap.size) (wr) W) (exact keep_ofP (by repeat (first | (with_reducible exact Below.refl _ _) | (with_reducible assumption) | (with_reducible exact (‹_ ∧ _ ∧ Below _ _ _›).2.2) | (with_reducible refine below_drewN ?_ _) | (with_reducible refine Below.drew ?_) | ((with_reducible refine Below.alloc ?_ ?hsd _); (case hsd => (first | exact Nat.le_refl _ | (simp; done) | omega | (simp; omega) | exact (‹_ ∧ _ ∧ Below _ _ _›).2.2.size))) | ((with_reducible refine Below.setCell ?_ ?hsd _); (case hsd => (first | exact Nat.le_refl _ | (simp; done) | omega | (simp; omega) | exact (‹_ ∧ _ ∧ Below _ _ _›).2.2.size))) | ((with_reducible refine Below.trans ?_ (Below.mono (by with_reducible assumption) ?hsd)); (case hsd => (first | exact Nat.le_refl _ | (simp; done) | omega | (simp; omega) | exact (‹_ ∧ _ ∧ Below _ _ _›).2.2.size))) | exact Below.refl _ _ | assumption | exact (‹_ ∧ _ ∧ Below _ _ _›).2.2 | refine below_drewN ?_ _ | refine Below.drew ?_ | refine Below.alloc ?_ (by first | exact Nat.le_refl _ | (simp; done) | omega | (simp; omega) | exact (‹_ ∧ _ ∧ Below _ _ _›).2.2.size) _ | refine Below.setCell ?_ (by first | exact Nat.le_refl _ | (simp; done) | omega | (simp; omega) | exact (‹_ ∧ _ ∧ Below _ _ _›).2.2.size) _ | refine Below.trans ?_ (Below.mono (by assumption) (by first | exact Nat.le_refl _ | (simp; done) | omega | (simp; omega) | exact (‹_ ∧ _ ∧ Below _ _ _›).2.2.size))))) ((go_at_call 137; refine (l_markText x _ (by omega) (by omega)).mono ?_; rintro e w1 ⟨rfl, hbr1⟩))
      have hb1 : Below wr.heap.size wr w1 := (Below.refl _ _).drew.trans hbr1
      have hz1 := hb1.size
      have hcc1 : ∀ q : Addr, q.block < wr.heap.size → w1.cell? q = wr.cell? q := fun q hq => hb1.cell hq
      have hqq1 : (ad.add (j * 4)).block < w1.heap.size := by omega
      go_wp2_with fail
      refine (l_heldStringS w1.heap.size r.A _ r.c (x + 1 + 1 + 1) w1 (Reads.of_own (own_below hrow hb1)) (Nat.le_refl _) (by omega) (by omega) hsn).mono ?_
      rintro e w2 ⟨rfl, hb2⟩
      have hbw2 : Below w.heap.size w w2 := (hb.trans (hb1.mono hzr)).trans (hb2.mono (by omega))
      clear hbr1 hb1 hb2 hcc1 hrow hc0 hc1 hc2 hc3 hb
      go_wp2
      go_roundw
      case rel =>
        refine ⟨j + 1, x + 1 + 1 + 1 + r.x.ss.length, by omega, by go_num, by go_num, ?_, hbw2⟩
        unfold Hid
        rw [HCT.out, HXK.out]
        push_cast
        omega
      case measure => simp [intOf]; omega
    · have hjn : j = n := by omega
      subst hjn
      have ht : L.take j = L := List.take_of_length_le (by have := HL.out; omega)
      have hx : x = k + cntI P := by have h := HXK.out; rw [ht, HP.out] at h; exact h
      have HX := Lib.hid hx
      clear ht hx HXK HCL hbx
      go_wp2
      go_ret
      exact ⟨ret_int HX.out, hb⟩
theorem cells_litem : Tryz.prog.cellsOf 142 = 4 := by kernel_rfl
theorem cells_lcardI : Tryz.prog.cellsOf 24 = 3 := by kernel_rfl
theorem cells_slI : Tryz.prog.cellsOf 22 = 1 := by kernel_rfl
theorem trod_cardI {H : Type} {enc : TypeId × Value → H} {W : World} {n : Nat} {c0 c1 c2 : Value} {x : DataW H × List MemPlace} (h : DataW.trod enc Tryz.prog W 0 (fun _ => true) true n 24 [c0, c1, c2] = some x) :
    ∃ (d f : Int) (A : Option Addr) (c : Nat) (ss : List ByteArray), c0 = .int .i64 d ∧ c1 = .int .i64 f ∧ c2 = .slice A ss.length c ∧ Reads W W.heap.size 1 A ss.length (ss.map Value.string) ∧ ss.length ≤ maxLen ∧ ∀ s ∈ ss, s.size ≤ maxLen := by
  obtain ⟨m0, y0, h0⟩ := trod_field Tryz.underlying24 h 0 _ rfl cells_int
  obtain ⟨m1, y1, h1⟩ := trod_field Tryz.underlying24 h 1 _ rfl cells_int
  obtain ⟨m2, y2, h2⟩ := trod_field Tryz.underlying24 h 2 _ rfl cells_slI
  obtain ⟨d, e0, _, _⟩ := DataW.trod_int Tryz.underlying3 h0
  obtain ⟨f, e1, _, _⟩ := DataW.trod_int Tryz.underlying3 h1
  obtain ⟨A, n, c, ss, e2, hR, hm, hs⟩ := reads_strings h2
  simp at e0 e1 e2
  have hl : ss.length = n := by have := hR.1; simpa using this
  subst hl
  exact ⟨d, f, A, c, ss, e0, e1, e2, hR, hm, hs⟩
theorem trod_item {H : Type} {enc : TypeId × Value → H} {W : World} {n : Nat} {c0 c1 c2 c3 : Value} {x : DataW H × List MemPlace} (h : DataW.trod enc Tryz.prog W 0 (fun _ => true) true n 142 [c0, c1, c2, c3] = some x) :
    ∃ (nm : ByteArray) (d f : Int) (A : Option Addr) (c : Nat) (ss : List ByteArray), c0 = .string nm ∧ c1 = .int .i64 d ∧ c2 = .int .i64 f ∧ c3 = .slice A ss.length c ∧ Reads W W.heap.size 1 A ss.length (ss.map Value.string) ∧ ss.length ≤ maxLen ∧ (∀ s ∈ ss, s.size ≤ maxLen) ∧ nm.size ≤ maxLen := by
  obtain ⟨m0, y0, h0⟩ := trod_field Tryz.underlying142 h 0 _ rfl cells_str
  obtain ⟨m1, y1, h1⟩ := trod_field Tryz.underlying142 h 1 _ rfl cells_lcardI
  obtain ⟨nm, e0, _, hnm⟩ := DataW.trod_string Tryz.underlying9 h0
  obtain ⟨d, f, A, c, ss, e1, e2, e3, hR, hm, hs⟩ := trod_cardI h1
  simp at e0
  exact ⟨nm, d, f, A, c, ss, e0, e1, e2, e3, hR, hm, hs, hnm⟩
theorem open_item {H : Type} {enc : TypeId × Value → H} {W : World} {r : Reach} {b0 : Nat} {v : Value} {d : DataW H} {p : List MemPlace}
    (hv : Value.okWide Tryz.prog W r b0 142 v) (h : DataW.Trod enc Tryz.prog W 0 (fun _ => true) true 142 v d p) :
    ∃ (nm : ByteArray) (dn f : Int) (A : Option Addr) (n c : Nat) (ss : List ByteArray), v = .agg #[.string nm, .int .i64 dn, .int .i64 f, .slice A n c] ∧ Reads W W.heap.size 1 A n (ss.map Value.string) ∧ n ≤ maxLen ∧ (∀ s ∈ ss, s.size ≤ maxLen) ∧ nm.size ≤ maxLen := by
  obtain ⟨cs, rfl, hsz⟩ := okWide_struct Tryz.underlying142 hv
  obtain ⟨c0, c1, c2, c3, rfl⟩ : ∃ c0 c1 c2 c3, cs = #[c0, c1, c2, c3] := by
    have hsz2 := hsz.trans cells_litem
    obtain ⟨l⟩ := cs
    match l, hsz2 with
    | [c0, c1, c2, c3], _ => exact ⟨c0, c1, c2, c3, rfl⟩
  obtain ⟨fuel, hf⟩ := h
  have hf' : DataW.trod enc Tryz.prog W 0 (fun _ => true) true fuel 142 [c0, c1, c2, c3] = some (d, p) := by simpa [Value.cells] using hf
  obtain ⟨nm, d, f, A, c, ss, rfl, rfl, rfl, rfl, hR, hm, hs, hnm⟩ := trod_item hf'
  exact ⟨nm, d, f, A, _, c, ss, rfl, hR, hm, hs, hnm⟩
theorem open_items {H : Type} {enc : TypeId × Value → H} {W : World} {r : Reach} {b0 : Nat} {v : Value} {d : DataW H} {p : List MemPlace}
    (hv : Value.okWide Tryz.prog W r b0 28 v) (h : DataW.Trod enc Tryz.prog W 0 (fun _ => true) true 28 v d p) :
    ∃ (A : Option Addr) (c : Nat) (L : List RItem), v = .slice A L.length c ∧ RawItems W W.heap.size A L := by
  obtain ⟨fuel, hf⟩ := h
  obtain ⟨A, n, c, l, hcs, hR, hl, hm, hq⟩ := reads_rows (α := RItem) (f := itemCells) (Q := fun r => Reads W W.heap.size 1 r.A r.x.ss.length (r.x.ss.map Value.string) ∧ r.x.ss.length ≤ 9223372036854775807 ∧ (∀ s ∈ r.x.ss, s.size ≤ 9223372036854775807) ∧ r.x.nm.size ≤ 9223372036854775807) itemCells_len (by omega) Tryz.underlying28 cells_litem hf (fun n cs' y hcl ht => by
    match cs', hcl with
    | [c0, c1, c2, c3], _ =>
      obtain ⟨nm, d, f, A, c, ss, rfl, rfl, rfl, rfl, hR, hm, hs, hnm⟩ := trod_item ht
      exact ⟨⟨⟨nm, d, f, ss⟩, A, c⟩, rfl, hR, hm, hs, hnm⟩)
  subst hl
  rcases okWide_slice Tryz.underlying28 hv with ⟨A', n', c', rfl⟩
  refine ⟨A, c, l, by simpa [Value.cells] using hcs, hR, hm, hq⟩
end Go.Proofs.YtdddglihomchfaaGreat
