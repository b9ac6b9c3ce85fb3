/- FnReplays: the walk. -/
import Derived.Test.YteffbjddgdjkmaaGreatRows
import Derived.Test.YteffbjddgdjkmaaGreatQSw
import Derived.Test.YteffbjddgdjkmaaGreatQSx
import Derived.Test.YteffbjddgdjkmaaGreatQSs
import Derived.Test.YteffbjddgdjkmaaGreatQSu
namespace Go.Proofs.YteffbjddgdjkmaaGreat.fnReplays
open Go.ChangeShapes Go.WideShapes Go.ChangeAt Go.RowKit
set_option linter.unusedVariables false
set_option linter.unusedSimpArgs false
set_option maxRecDepth 10000
theorem setne {xs : List Int} {k : Nat} (h : k < xs.length) : xs ≠ xs.set k (wrap64 (xs[k] + 1)) := by
  intro e
  have h1 : xs[k]? = (xs.set k (wrap64 (xs[k] + 1)))[k]? := by rw [← e]
  rw [List.getElem?_set_self h, List.getElem?_eq_getElem h] at h1
  injection h1 with h1
  unfold wrap64 at h1
  omega
theorem ints_set (l : List Int) (k : Nat) (x : Int) : (ints l).set k (.int .i64 x) = ints (l.set k x) := by unfold ints; rw [List.map_set]
set_option maxHeartbeats 6400000 in
theorem walkReplays (A : Option Addr) (c : Nat) (bs : List Int) (w : World) (hK : Code w w.heap.size A bs) :
    Calls Tryz.prog 4 #[.slice A bs.length c] w fun e w' => e = .returned (.bool true) ∧ Below w.heap.size w w' := by
  have hnb := hK.nb
  have hd : decide (1048576 < bs.length) = false := by simp; omega
  go_enter Tryz.func4, Tryz.ntmps4
  go_wp2_with (go_at_call 6; refine (l_big _ _ _ _ (by omega)).mono ?_; rw [hd]; rintro e w' ⟨rfl, rfl⟩)
  refine (s_DrawActs w.heap.size A c bs w hK (Nat.le_refl _)).mono ?_
  rintro e w1 ⟨d1, f1, ss1, d2, f2, ss2, st, P, pp, m, A1, c1, A2, c2, A3, c3, A4, c4, A5, c5, la, Aa, ca, HW, hla, rfl, o_W, o_A, G_⟩
  have hwk := HW.ok
  have hz := HW.z
  have s_w1 := G_.size
  have HWK := Lib.hid hwk
  have HZ := hide hz
  obtain ⟨n, hn⟩ : ∃ n, la.length = n := ⟨_, rfl⟩
  have hr3 : (runRes ⟨⟨d1, f1, ss1, d2, f2, ss2, st⟩, P, pp, m⟩ la).2.length = n := by rw [runRes_yes hwk (by omega), runAll_len]; simp [hn]
  have hrp := fun ns => replay_yes (ns := ns) hwk (show la.length ≤ 40 by omega)
  have kR := fun (W : World) (h1 : OwnW W w.heap.size w1.heap.size A1 c1 A2 c2 A3 c3 A4 c4 A5 c5 ⟨d1, f1, ss1, d2, f2, ss2, st⟩ P pp) (h2 : OwnA W w.heap.size w1.heap.size Aa ca la) => i_RunActs d1 f1 ss1 d2 f2 ss2 st P pp m la W.heap.size A1 A2 A3 A4 A5 c1 c2 c3 c4 c5 Aa ca W (h1.rd (hz.more (by omega))) (h2.rd (by omega)) (Nat.le_refl _) hz
  have kI := fun (ln : List Int) (An : Option Addr) (cn lo hi : Nat) (W : World) (h1 : OwnW W w.heap.size w1.heap.size A1 c1 A2 c2 A3 c3 A4 c4 A5 c5 ⟨d1, f1, ss1, d2, f2, ss2, st⟩ P pp) (h2 : OwnA W w.heap.size w1.heap.size Aa ca la) (h3 : OwnN W lo hi An cn ln) (hl : ln.length ≤ 16777216) => i_IsReplay d1 f1 ss1 d2 f2 ss2 st P pp m la ln W.heap.size A1 A2 A3 A4 A5 c1 c2 c3 c4 c5 Aa ca An cn W (h1.rd (hz.more (by omega))) (h2.rd (by omega)) h3.rd hl (Nat.le_refl _) hz
  generalize runRes ⟨⟨d1, f1, ss1, d2, f2, ss2, st⟩, P, pp, m⟩ la = R at *
  obtain ⟨⟨⟨e1, g1, ts1, e2, g2, ts2, tt⟩, Q, qq, mm⟩, xs⟩ := R
  simp only at hr3 kR hrp
  have hn13 : n ≤ 13 := by omega
  have kR2 : ∀ W : World, OwnW W w.heap.size w1.heap.size A1 c1 A2 c2 A3 c3 A4 c4 A5 c5 ⟨d1, f1, ss1, d2, f2, ss2, st⟩ P pp → OwnA W w.heap.size w1.heap.size Aa ca la → Calls Tryz.prog 8 #[.agg #[.int .i64 d1, .int .i64 f1, .slice A1 ss1.length c1, .int .i64 d2, .int .i64 f2, .slice A2 ss2.length c2, .slice A3 st.length c3, .slice A4 P.length c4, .slice A5 pp.length c5, .int .i64 m], .slice Aa n ca] W fun e w' => ∃ (B1 : Option Addr) (b1 : Nat) (B2 : Option Addr) (b2 : Nat) (B3 : Option Addr) (b3 : Nat) (B4 : Option Addr) (b4 : Nat) (B5 : Option Addr) (b5 : Nat) (B6 : Option Addr) (b6 : Nat) (l1 h1 l2 h2 : Nat), e = .returned (.tuple #[.agg #[.int .i64 e1, .int .i64 g1, .slice B1 ts1.length b1, .int .i64 e2, .int .i64 g2, .slice B2 ts2.length b2, .slice B3 tt.length b3, .slice B4 Q.length b4, .slice B5 qq.length b5, .int .i64 mm], .slice B6 n b6]) ∧ (W.heap.size ≤ l1 ∧ W.heap.size ≤ l2 ∧ h2 ≤ w'.heap.size) ∧ OwnW w' l1 h1 B1 b1 B2 b2 B3 b3 B4 b4 B5 b5 ⟨e1, g1, ts1, e2, g2, ts2, tt⟩ Q qq ∧ OwnN w' l2 h2 B6 b6 xs ∧ Below W.heap.size W w' := by
    intro W h1 h2
    have h := kR W h1 h2
    rw [hn] at h
    refine h.mono ?_
    rintro e w' ⟨B1, b1, B2, b2, B3, b3, B4, b4, B5, b5, B6, b6, rfl, ho, hb⟩
    obtain ⟨l1, k1, l2, k2, hr, ha, x, y⟩ := ho.all
    exact ⟨B1, b1, B2, b2, B3, b3, B4, b4, B5, b5, B6, b6, l1, k1, l2, k2, by rw [hr3], by omega, x, y, hb⟩
  have kI2 : ∀ (ln : List Int) (N : Nat) (An : Option Addr) (cn lo hi : Nat) (W : World) (b : Bool), ln.length = N → N ≤ 13 → decide (xs = ln) = b → OwnW W w.heap.size w1.heap.size A1 c1 A2 c2 A3 c3 A4 c4 A5 c5 ⟨d1, f1, ss1, d2, f2, ss2, st⟩ P pp → OwnA W w.heap.size w1.heap.size Aa ca la → OwnN W lo hi An cn ln → Calls Tryz.prog 11 #[.agg #[.int .i64 d1, .int .i64 f1, .slice A1 ss1.length c1, .int .i64 d2, .int .i64 f2, .slice A2 ss2.length c2, .slice A3 st.length c3, .slice A4 P.length c4, .slice A5 pp.length c5, .int .i64 m], .slice Aa n ca, .slice An N cn] W fun e w' => e = .returned (.bool b) ∧ Below W.heap.size W w' := by
    intro ln N An cn lo hi W b hN h13 hb h1 h2 h3
    have h := kI ln An cn lo hi W h1 h2 h3 (by omega)
    rw [hrp, hb, hn, hN] at h
    exact h
  have HKR := hide kR2
  have HKI := hide kI2
  have HXL := Lib.hid hr3
  have HLA := Lib.hid hn
  rw [hn]
  clear kR kR2 kI kI2 hr3 hwk hz HW hrp HWK HZ hn hla
  go_wp2_with fail
  obtain ⟨w2, e_⟩ : ∃ x, x = (w1.alloc (.cells #[.int .i64 d1, .int .i64 f1, .slice A1 ss1.length c1, .int .i64 d2, .int .i64 f2, .slice A2 ss2.length c2, .slice A3 st.length c3, .slice A4 P.length c4, .slice A5 pp.length c5, .int .i64 m] 33)) := ⟨_, rfl⟩
  have hX_ : Boxy w1 w2 := by rw [e_]; exact boxy
  have z_ : Below w.heap.size w1 w2 := by rw [e_]; exact bel
  have k_o : w2.heap[w1.heap.size]? = some (.cells #[.int .i64 d1, .int .i64 f1, .slice A1 ss1.length c1, .int .i64 d2, .int .i64 f2, .slice A2 ss2.length c2, .slice A3 st.length c3, .slice A4 P.length c4, .slice A5 pp.length c5, .int .i64 m] 33 (0, 0)) := by rw [e_]; exact (blk_new_at _ _ (by simp))
  replace o_W := o_W.boxy hX_
  replace o_A := o_A.boxy hX_
  replace G_ : Below w.heap.size w w2 := G_.trans z_
  have s_w2 : w1.heap.size ≤ w2.heap.size := by rw [e_]; simp [World.setCell]; try omega
  obtain ⟨bo, eb_⟩ : ∃ x, x = w1.heap.size := ⟨_, rfl⟩
  rw [← eb_] at k_o
  have l_o : w.heap.size ≤ bo := by omega
  have eb_o := eb_; clear eb_
  rw [← e_]
  clear e_ hX_ z_ 
  try rw [← eb_o]
  clear eb_o
  have hbo := blk_lt k_o
  refine (HKR.out w2 o_W o_A).mono ?_
  rintro e w3 ⟨B1, b1, B2, b2, B3, b3, B4, b4, B5, b5, B6, b6, l1, h1, l2, h2, rfl, hrg, o_X, o_N, z_⟩
  replace k_o := blk_next k_o z_
  replace o_W := o_W.below z_
  replace o_A := o_A.below z_
  replace G_ := G_.trans (z_.mono G_.size)
  have s_w3 := z_.size
  clear z_
  clear o_X
  have hl2 : w1.heap.size ≤ l2 := by omega
  have hbo2 : bo < l2 := by omega
  have hwl2 : w.heap.size ≤ l2 := by omega
  clear hrg hbo
  obtain ⟨x0o, x1o, x2o, x3o, x4o, x5o, x6o, x7o, x8o, x9o, xlo⟩ := blk10 k_o
  go_wp2_with fail
  clear x0o x1o x2o x3o x4o x5o x6o x7o x8o x9o xlo
  have q_o := blk_lt k_o
  obtain ⟨w4, e_⟩ : ∃ x, x = (w3.alloc (.cells #[.int .i64 e1, .int .i64 g1, .slice B1 ts1.length b1, .int .i64 e2, .int .i64 g2, .slice B2 ts2.length b2, .slice B3 tt.length b3, .slice B4 Q.length b4, .slice B5 qq.length b5, .int .i64 mm] 33)) := ⟨_, rfl⟩
  have hX_ : Boxy w3 w4 := by rw [e_]; exact boxy
  have z_ : Below w.heap.size w3 w4 := by rw [e_]; exact bel
  replace k_o := hkw e_ (blk_alloc k_o _)
  have k_x : w4.heap[w3.heap.size]? = some (.cells #[.int .i64 e1, .int .i64 g1, .slice B1 ts1.length b1, .int .i64 e2, .int .i64 g2, .slice B2 ts2.length b2, .slice B3 tt.length b3, .slice B4 Q.length b4, .slice B5 qq.length b5, .int .i64 mm] 33 (0, 0)) := by rw [e_]; exact (blk_new_at _ _ (by simp))
  replace o_W := o_W.boxy hX_
  replace o_A := o_A.boxy hX_
  replace o_N := o_N.boxy hX_
  replace G_ : Below w.heap.size w w4 := G_.trans z_
  have s_w4 : w3.heap.size ≤ w4.heap.size := by rw [e_]; simp [World.setCell]; try omega
  obtain ⟨bx, eb_⟩ : ∃ x, x = w3.heap.size := ⟨_, rfl⟩
  rw [← eb_] at k_x
  have l_x : w.heap.size ≤ bx := by omega
  have d_ox : bo < bx := by omega
  have eb_x := eb_; clear eb_
  rw [← e_]
  clear e_ hX_ z_ q_o
  try rw [← eb_x]
  clear eb_x
  refine (HKI.out xs n B6 b6 l2 h2 w4 true HXL.out hn13 (decide_eq_true rfl) o_W o_A o_N).mono ?_
  rintro e w5 ⟨rfl, z_⟩
  replace k_o := blk_next k_o z_
  replace k_x := blk_next k_x z_
  replace o_W := o_W.below z_
  replace o_A := o_A.below z_
  replace o_N := o_N.below z_
  replace G_ := G_.trans (z_.mono G_.size)
  have s_w5 := z_.size
  clear z_
  by_cases h0 : n = 0
  · skip
    subst h0
    obtain ⟨x0o, x1o, x2o, x3o, x4o, x5o, x6o, x7o, x8o, x9o, xlo⟩ := blk10 k_o
    go_wp2_with fail
    clear x0o x1o x2o x3o x4o x5o x6o x7o x8o x9o xlo
    have hO1 : OwnN (w5.alloc (.cells #[.int .i64 1] 3)) w5.heap.size (w5.heap.size + 1) (some ⟨w5.heap.size, 0, none⟩) 1 [1] :=
      ⟨World.ownsRow_lit w5 (base := w5.heap.size) (e := 3) (size := 1) #[.int .i64 1] 1 (Nat.le_refl _) (by unfold maxLen; omega) rfl, fun k hk => by simp [Value.ownBlock] at hk; omega⟩
    obtain ⟨bm, hbm⟩ : ∃ x, x = w5.heap.size := ⟨_, rfl⟩
    have q_o := blk_lt k_o
    have q_x := blk_lt k_x
    obtain ⟨w6, e_⟩ : ∃ x, x = (w5.alloc (.cells #[.int .i64 1] 3)) := ⟨_, rfl⟩
    have hX_ : Boxy w5 w6 := by rw [e_]; exact boxy
    have z_ : Below w.heap.size w5 w6 := by rw [e_]; exact bel
    replace k_o := hkw e_ (blk_alloc k_o _)
    replace k_x := hkw e_ (blk_alloc k_x _)
    replace o_W := o_W.boxy hX_
    replace o_A := o_A.boxy hX_
    replace o_N := o_N.boxy hX_
    replace G_ : Below w.heap.size w w6 := G_.trans z_
    have s_w6 : w5.heap.size ≤ w6.heap.size := by rw [e_]; simp [World.setCell]; try omega
    rw [← e_] at hO1
    rw [← e_]
    clear e_ hX_ z_ q_o q_x
    rw [← hbm] at hO1 ⊢
    clear hbm
    refine (HKI.out [1] 1 (some ⟨bm, 0, none⟩) 1 bm (bm + 1) w6 false rfl (by omega) (decide_eq_false (fun e => by have := HXL.out; rw [e] at this; cases this)) o_W o_A hO1).mono ?_
    rintro e w7 ⟨rfl, z_⟩
    replace k_o := blk_next k_o z_
    replace k_x := blk_next k_x z_
    replace o_W := o_W.below z_
    replace o_A := o_A.below z_
    replace o_N := o_N.below z_
    replace G_ := G_.trans (z_.mono G_.size)
    have s_w7 := z_.size
    clear z_
    go_wp2
    go_ret
    exact ⟨rfl, G_⟩
  · skip
    have h0i : ¬ (n : Int) = 0 := by omega
    go_wp2_with fail
    refine (s_DrawPlaces w.heap.size A c bs w5 (hK.below G_) G_.size).mono ?_
    rintro e w6 ⟨lp, Ap, cp, hlp, hpx, rfl, o_P, z_⟩
    replace k_o := blk_next k_o z_
    replace k_x := blk_next k_x z_
    replace o_W := o_W.below z_
    replace o_A := o_A.below z_
    replace o_N := o_N.below z_
    replace G_ := G_.trans (z_.mono G_.size)
    have s_w6 := z_.size
    clear z_
    have hsp := o_P.row
    rw [hlp] at hsp
    obtain ⟨gP, capP, hvP, hbP, hltP⟩ := hsp.form (by omega)
    have hAP : Ap = some ⟨gP, 0, none⟩ := by injection hvP
    subst hAP
    clear hvP
    have h0x : 0 < lp.length := by omega
    have hpb := hpx _ (List.getElem_mem h0x)
    have hc0 : w6.cell? ⟨gP, 0, none⟩ = some (.int .i64 lp[0]) := by rw [hsp.cellAt 0 (by omega)]; unfold ints; rw [List.getElem?_map, List.getElem?_eq_getElem h0x]; rfl
    obtain ⟨p0, hp0⟩ : ∃ x, lp[0] = x := ⟨_, rfl⟩
    rw [hp0] at hc0 hpb
    clear hpx hp0 hsp
    obtain ⟨K, hK0⟩ : ∃ K : Nat, (K : Int) = p0 % (n : Int) := ⟨(p0 % (n : Int)).toNat, by rw [Int.toNat_of_nonneg (Int.emod_nonneg _ h0i)]⟩
    have hKn : (K : Int) < n := by rw [hK0]; exact Int.emod_lt_of_pos _ (by omega)
    have hKn2 : K < n := by omega
    have hrem : Int.tmod p0 (n : Int) = (K : Int) := by rw [Int.tmod_eq_emod_of_nonneg hpb.1, hK0]
    have hK1 : p0 % (n : Int) = (K : Int) := hK0.symm
    have hnn : n ≠ 0 := h0
    have hsn := o_N.row
    rw [HXL.out] at hsn
    obtain ⟨gN, cap, hv, hbg, hglt⟩ := hsn.form (by omega)
    have hA : B6 = some ⟨gN, 0, none⟩ := by injection hv
    subst hA
    clear hv
    have hKx : K < xs.length := by rw [HXL.out]; exact hKn2
    have hc1 : w6.cell? ⟨gN, K, none⟩ = some (.int .i64 xs[K]) := by rw [hsn.cellAt K (by omega)]; unfold ints; rw [List.getElem?_map, List.getElem?_eq_getElem hKx]; rfl
    have hf1 := hsn.frozenAt K
    have hst := hsn.stored K (.int .i64 (wrap64 (xs[K] + 1)))
    have hne := Lib.hid (setne hKx)
    have HST := hide hst
    obtain ⟨X, hX⟩ : ∃ X, xs[K] = X := ⟨_, rfl⟩
    rw [hX] at hc1 hne HST
    clear hst hX hK0
    have hng : ¬ bo = gN := by omega
    have hng2 : ¬ gN = bo := by omega
    obtain ⟨x0o, x1o, x2o, x3o, x4o, x5o, x6o, x7o, x8o, x9o, xlo⟩ := blk10 k_o
    go_wp2_with fail
    clear x0o x1o x2o x3o x4o x5o x6o x7o x8o x9o xlo
    have hst := HST.out
    obtain ⟨wE, e_⟩ : ∃ x, x = w6.setCell ⟨gN, K, none⟩ (.int .i64 (wrap64 (X + 1))) := ⟨_, rfl⟩
    rw [← e_] at hst ⊢
    have hW : Within l2 h2 w6 wE := Within.of_grown hsn (by decide) hst.2 (Nat.le_refl _) (fun k hk => o_N.top k (by rw [HXL.out]; exact hk))
    have o_W2 := o_W.within hW (.inl hl2)
    have o_A2 := o_A.within hW (.inl hl2)
    have o_N2 : OwnN wE l2 h2 (some ⟨gN, 0, none⟩) b6 (xs.set K (wrap64 (X + 1))) := ⟨by rw [List.length_set, HXL.out, ← ints_set]; exact hst.1, fun k hk => o_N.top k (by rw [List.length_set] at hk; exact hk)⟩
    have G2 : Below w.heap.size w wE := G_.trans (by rw [e_]; exact (Below.refl _ _).setCell (p := ⟨gN, K, none⟩) (Nat.le_trans hwl2 hbg) _)
    clear e_ hst hW o_W o_A
    refine (HKI.out (xs.set K (wrap64 (X + 1))) n (some ⟨gN, 0, none⟩) b6 l2 h2 wE false (by rw [List.length_set]; exact HXL.out) hn13 (decide_eq_false hne.out) o_W2 o_A2 o_N2).mono ?_
    rintro e wF ⟨rfl, z_⟩
    go_wp2
    go_ret
    exact ⟨rfl, G2.trans (z_.mono G2.size)⟩
end Go.Proofs.YteffbjddgdjkmaaGreat.fnReplays
