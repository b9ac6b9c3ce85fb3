/- FnBoxes: the walk. -/
import Derived.BigQuiet
import Derived.Deep.DeepCutAuto
import Derived.Lib.QuietBelow
import Derived.Test.YtccjedongkokoaaRows
import Derived.Test.YtccjedongkokoaaQXad
import Derived.Test.YtccjedongkokoaaQXu
import Derived.Test.YtccjedongkokoaaQXz
namespace Go.Proofs.Ytccjedongkokoaa.fnBoxes
open Go.ChangeShapes Go.WideShapes Go.ChangeAt Go.RowKit
set_option linter.unusedVariables false
set_option linter.unusedSimpArgs false
set_option maxRecDepth 10000
theorem code_drewN {w : World} {B : Nat} {A : Option Addr} {bs : List Int} (h : Code w B A bs) (q : Nat) : Code (w.drewN q) B A bs := ⟨h.rd.drewN q, h.nb, h.bd⟩
theorem w64 {x : Int} (h : -9223372036854775808 ≤ x ∧ x ≤ 9223372036854775807) : IntKind.i64.wrap x = x := by rw [IntKind.wrap_i64]; omega
set_option maxHeartbeats 25600000 in
theorem walkBoxes (A : Option Addr) (c : Nat) (bs : List Int) (w : World) (hK : Code w w.heap.size A bs) :
    Calls Try.prog 3 #[.slice A bs.length c] w fun e w' => e = .returned (.bool true) ∧ Below w.heap.size w w' := by
  have hnb := hK.nb
  have hd : decide (1048576 < bs.length) = false := by simp; omega
  go_enter Try.func3, Try.ntmps3
  go_wp2_with (go_at_call 7; refine (l_big _ _ _ _ (by omega)).mono ?_; rw [hd]; rintro e w' ⟨rfl, rfl⟩)
  refine (s_DrawCard w.heap.size A c bs w hK (Nat.le_refl _)).mono ?_
  rintro e w1 ⟨d, f, ss, A', c', hbd, hss, rfl, ho1, hb1⟩
  have hcd := drew_cardOk hbd hss
  have hsz : ∀ x ∈ ss, x.size ≤ 16777216 := fun x hx => by have := (hss x hx).2.2; omega
  have hS1 : Strs w1 w1.heap.size A' ss.length ss := ho1.rd (by omega) hsz
  have hs1 := hb1.size
  obtain ⟨X0, hX0⟩ : ∃ X, atV bs 0 = X := ⟨_, rfl⟩
  obtain ⟨X1, hX1⟩ : ∃ X, atV bs 1 = X := ⟨_, rfl⟩
  have hx0 := atV_bd hK.bd 0
  have hx1 := atV_bd hK.bd 1
  have kAt0 := fun (W : World) (h : Code W w.heap.size A bs) => l_at 0 w.heap.size A c bs W h (by omega)
  have kAt1 := fun (W : World) (h : Code W w.heap.size A bs) => l_at 1 w.heap.size A c bs W h (by omega)
  rw [hX0] at kAt0 hx0
  rw [hX1] at kAt1 hx1
  clear hX0 hX1
  obtain ⟨n, hn⟩ : ∃ n, ss.length = n := ⟨_, rfl⟩
  have HN := Lib.hid hn
  rw [hn] at hbd hS1 ⊢
  clear hn
  have hn16 := hbd.2.2.2.2
  obtain ⟨K, hKe⟩ : ∃ K : Nat, X0 % (n : Int) = K := ⟨(X0 % (n : Int)).toNat, by have := Int.emod_nonneg X0 (show (n : Int) ≠ 0 by omega); omega⟩
  have hKn : K < n := by have := Int.emod_lt_of_pos X0 (show 0 < (n : Int) by omega); omega
  have hK2 : K < ss.length := by rw [HN.out]; exact hKn
  have hKb : (K : Int) < (n : Int) := by omega
  obtain ⟨T, hTe⟩ : ∃ T : Int, 1 + X1 % ((d : Int) + (f : Int)) = T := ⟨_, rfl⟩
  have hdf : IntKind.i64.wrap ((d : Int) + (f : Int)) = (d : Int) + (f : Int) := w64 (by omega)
  have hT0 := Int.emod_nonneg X1 (show (d : Int) + (f : Int) ≠ 0 by omega)
  have hT1 := Int.emod_lt_of_pos X1 (show 0 < (d : Int) + (f : Int) by omega)
  have hTb : 1 ≤ T ∧ T ≤ 16 := by omega
  have hT9 : IntKind.i64.wrap (1 + X1 % ((d : Int) + (f : Int))) = T := by rw [hTe]; exact w64 (by omega)
  clear hT0 hT1
  have hnz2 : ¬ (n : Int) = 0 := by omega
  have hnz3 : ¬ (d : Int) + (f : Int) = 0 := by omega
  have hfl : cardOk (d : Int) (f : Int) (List.replicate n (flatT d f)) = true := by
    have hD : Drew d f (flatT d f) := Drew.flat d f
    have hst := drew_strip hD (by omega) (by omega) (by omega) (by omega)
    exact card_iff.2 ⟨by omega, by rw [List.length_replicate]; omega, fun s hs => by rw [List.eq_of_mem_replicate hs]; exact ⟨hst, by rw [hD.1], by rw [hD.2.1]⟩⟩
  have hflz : ∀ x ∈ List.replicate n (flatT d f), x.size ≤ 16777216 := fun x hx => by
    rw [List.eq_of_mem_replicate hx]
    have := (Drew.flat d f).2.2
    show (⟨(List.replicate d 100).toArray⟩ ++ ⟨(List.replicate f 102).toArray⟩ : ByteArray).size ≤ _
    omega
  have kBF := fun (W : World) (h : Strs W W.heap.size A' n ss) => i_BoxesFor d f W.heap.size A' n c' ss W h (Nat.le_refl _) hcd
  have kPL : ∀ W : World, Calls Try.prog 10 #[.int .i64 d, .int .i64 f, .int .i64 n] W fun e w' => ∃ A3 c3, e = .returned (.tuple #[.agg #[.int .i64 d, .int .i64 f, .slice A3 n c3], .bool true]) ∧ Strs w' w'.heap.size A3 n (List.replicate n (flatT d f)) ∧ Below W.heap.size W w' := by
    intro W
    refine (s_PlainCard d f n W (by omega) (by omega) (by omega) (by omega) (by omega) (by omega)).mono ?_
    rintro e w' ⟨A3, c3, rfl, ho, hb⟩
    rw [List.length_replicate] at ho ⊢
    exact ⟨A3, c3, rfl, strs_of_own ho (by omega) hflz, hb⟩
  have hbuilt : ∀ L : List PBox, Built d f ss (List.replicate n (flatT d f)) n L → addRes d f (List.replicate n (flatT d f)) L = (ss, (L.length : Int)) ∧ volOf d f ss = L.length := by
    intro L h
    refine Built.full (d := d) (f := f) (by rw [HN.out]; exact h) hcd hfl (by rw [List.length_replicate, HN.out])
  obtain ⟨fl, hfle⟩ : ∃ x, List.replicate n (flatT d f) = x := ⟨_, rfl⟩
  have kWB := fun (W : World) (h : Strs W W.heap.size A' n ss) => i_WidestBox d f W.heap.size A' n c' ss K T W h (Nat.le_refl _) (by omega) hcd hKn hK2
  rw [hfle] at kPL hbuilt hflz hfl kBF
  have kSC : ∀ (W : World) (A2 : Option Addr) (c2 : Nat), Strs W W.heap.size A2 n ss → Strs W W.heap.size A' n ss → Calls Try.prog 13 #[.agg #[.int .i64 d, .int .i64 f, .slice A2 n c2], .agg #[.int .i64 d, .int .i64 f, .slice A' n c']] W fun e w' => e = .returned (.bool true) ∧ Below W.heap.size W w' := by
    intro W A2 c2 h1 h2
    have q := i_SameCard d f d f W.heap.size A2 A' n c2 n c' ss ss W h1 h2 (Nat.le_refl _)
    rw [sameCard_iff.2 ⟨rfl, rfl, rfl⟩] at q
    exact q
  have HA0 := hide kAt0
  have HA1 := hide kAt1
  have HSZ := hide hsz
  have HBF := hide kBF
  have HPL := hide kPL
  have HBT := hide hbuilt
  have HWB := hide kWB
  have HSC := hide kSC
  have HCD := Lib.hid hcd
  have HFL := Lib.hid hfl
  have hLn : ss.length = n := HN.out
  have HS := hide hss
  clear kAt0 kAt1 hss hsz ho1 kBF kPL hbuilt kWB kSC hcd hfl hfle hflz hTe hLn
  have SC := hS1
  go_wp2_with fail
  have kC_w2 := blk_new w1 (.cells #[.int .i64 d, .int .i64 f, .slice A' n c'] 26)
  have hb_w2 : Below w1.heap.size w1 (w1.alloc (.cells #[.int .i64 d, .int .i64 f, .slice A' n c'] 26)) := bel
  have gC_w2 := hb_w2
  generalize (w1.alloc (.cells #[.int .i64 d, .int .i64 f, .slice A' n c'] 26)) = w2 at *
  obtain ⟨hC0, hC1, hC2, hCl⟩ := blk3 kC_w2
  go_wp2_with fail
  clear hC0 hC1 hC2 hCl
  refine (HBF.out w2 ((SC.below gC_w2).more gC_w2.size)).mono ?_
  rintro e w3 ⟨L, N, A2, c2, hLN, hN, hbt, rfl, SL, hb_w3⟩
  have kC_w3 := blk_next kC_w2 hb_w3
  have gC_w3 := gC_w2.trans (hb_w3.mono gC_w2.size)
  clear kC_w2 gC_w2
  obtain ⟨har, hvol⟩ := HBT.out L hbt
  rw [hLN] at har hvol
  have gL_w3 : Below w3.heap.size w3 w3 := Below.refl _ _
  have kAB : ∀ (W : World) (A3 : Option Addr) (c3 : Nat), Strs W W.heap.size A3 n fl → Boxes W W.heap.size A2 N L → Calls Try.prog 11 #[.agg #[.int .i64 d, .int .i64 f, .slice A3 n c3], .slice A2 N c2] W fun e w' => ∃ A4 c4, e = .returned (.tuple #[.agg #[.int .i64 d, .int .i64 f, .slice A4 n c4], .int .i64 (N : Int)]) ∧ Strs w' w'.heap.size A4 n ss ∧ Below W.heap.size W w' := by
    intro W A3 c3 h1 h2
    have q := i_AddBoxes d f W.heap.size A3 n c3 fl A2 N c2 L W h1 h2 (Nat.le_refl _)
    rw [har] at q
    refine q.mono ?_
    rintro e w' ⟨A4, c4, rfl, ho, hb⟩
    rw [HN.out] at ho ⊢
    exact ⟨A4, c4, rfl, strs_of_own ho (by omega) HSZ.out, hb⟩
  have kNB : ∀ (W : World), Boxes W W.heap.size A2 N L → Calls Try.prog 11 #[.agg #[.int .i64 0, .int .i64 0, .slice none 0 0], .slice A2 N c2] W fun e w' => ∃ A4 c4, e = .returned (.tuple #[.agg #[.int .i64 0, .int .i64 0, .slice A4 0 c4], .int .i64 (-1)]) ∧ Below W.heap.size W w' := by
    intro W h2
    have hS0 : Strs W W.heap.size none 0 [] := ⟨⟨rfl, fun h => absurd h (by omega)⟩, by omega, fun s hs => by cases hs⟩
    have q := i_AddBoxes 0 0 W.heap.size none 0 0 [] A2 N c2 L W hS0 h2 (Nat.le_refl _)
    rw [addRes_none] at q
    refine q.mono ?_
    rintro e w' ⟨A4, c4, rfl, ho, hb⟩
    exact ⟨A4, c4, rfl, hb⟩
  have kVC : ∀ (W : World), Strs W W.heap.size A' n ss → Calls Try.prog 12 #[.agg #[.int .i64 d, .int .i64 f, .slice A' n c']] W fun e w' => e = .returned (.int .i64 (N : Int)) ∧ Below W.heap.size W w' := by
    intro W h
    have q := s_VolumeOf d f W.heap.size A' n c' ss W h (Nat.le_refl _)
    rw [hvol] at q
    exact q
  have HAB := hide kAB
  have HNB := hide kNB
  have HVC := hide kVC
  have HVOL := Lib.hid hvol
  clear kAB kNB kVC har hvol hbt hLN
  have kL_w3 : True := trivial
  obtain ⟨hC0, hC1, hC2, hCl⟩ := blk3 kC_w3
  go_wp2_with fail
  clear hC0 hC1 hC2 hCl
  refine (HPL.out w3).mono ?_
  rintro e w4 ⟨A3, c3, rfl, SP, hb_w4⟩
  have kC_w4 := blk_next kC_w3 hb_w4
  have gC_w4 := gC_w3.trans (hb_w4.mono gC_w3.size)
  clear kC_w3 gC_w3
  have kL_w4 : True := trivial
  have gL_w4 := gL_w3.trans (hb_w4.mono gL_w3.size)
  clear kL_w3 gL_w3
  obtain ⟨hC0, hC1, hC2, hCl⟩ := blk3 kC_w4
  go_wp2_with fail
  clear hC0 hC1 hC2 hCl
  have kP_w5 := blk_new w4 (.cells #[.int .i64 d, .int .i64 f, .slice A3 n c3] 26)
  have hb_w5 : Below w4.heap.size w4 (w4.alloc (.cells #[.int .i64 d, .int .i64 f, .slice A3 n c3] 26)) := bel
  have kC_w5 := blk_next kC_w4 hb_w5
  have gC_w5 := gC_w4.trans (hb_w5.mono gC_w4.size)
  clear kC_w4 gC_w4
  have kL_w5 : True := trivial
  have gL_w5 := gL_w4.trans (hb_w5.mono gL_w4.size)
  clear kL_w4 gL_w4
  have gP_w5 := hb_w5
  generalize (w4.alloc (.cells #[.int .i64 d, .int .i64 f, .slice A3 n c3] 26)) = w5 at *
  obtain ⟨hP0, hP1, hP2, hPl⟩ := blk3 kP_w5
  go_wp2_with fail
  clear hP0 hP1 hP2 hPl
  refine (HAB.out w5 A3 c3 ((SP.below gP_w5).more gP_w5.size) ((SL.below gL_w5).more gL_w5.size)).mono ?_
  rintro e w6 ⟨A4, c4, rfl, SX, hb_w6⟩
  have kC_w6 := blk_next kC_w5 hb_w6
  have gC_w6 := gC_w5.trans (hb_w6.mono gC_w5.size)
  clear kC_w5 gC_w5
  have kL_w6 : True := trivial
  have gL_w6 := gL_w5.trans (hb_w6.mono gL_w5.size)
  clear kL_w5 gL_w5
  have kP_w6 := blk_next kP_w5 hb_w6
  have gP_w6 := gP_w5.trans (hb_w6.mono gP_w5.size)
  clear kP_w5 gP_w5
  obtain ⟨hC0, hC1, hC2, hCl⟩ := blk3 kC_w6
  go_wp2_with fail
  clear hC0 hC1 hC2 hCl
  have kX_w7 := blk_new w6 (.cells #[.int .i64 d, .int .i64 f, .slice A4 n c4] 26)
  have hb_w7 : Below w6.heap.size w6 (w6.alloc (.cells #[.int .i64 d, .int .i64 f, .slice A4 n c4] 26)) := bel
  have kC_w7 := blk_next kC_w6 hb_w7
  have gC_w7 := gC_w6.trans (hb_w7.mono gC_w6.size)
  clear kC_w6 gC_w6
  have kL_w7 : True := trivial
  have gL_w7 := gL_w6.trans (hb_w7.mono gL_w6.size)
  clear kL_w6 gL_w6
  have kP_w7 := blk_next kP_w6 hb_w7
  have gP_w7 := gP_w6.trans (hb_w7.mono gP_w6.size)
  clear kP_w6 gP_w6
  have gX_w7 := hb_w7
  generalize (w6.alloc (.cells #[.int .i64 d, .int .i64 f, .slice A4 n c4] 26)) = w7 at *
  refine (HVC.out w7 ((SC.below gC_w7).more gC_w7.size)).mono ?_
  rintro e w8 ⟨rfl, hb_w8⟩
  have kC_w8 := blk_next kC_w7 hb_w8
  have gC_w8 := gC_w7.trans (hb_w8.mono gC_w7.size)
  clear kC_w7 gC_w7
  have kL_w8 : True := trivial
  have gL_w8 := gL_w7.trans (hb_w8.mono gL_w7.size)
  clear kL_w7 gL_w7
  have kP_w8 := blk_next kP_w7 hb_w8
  have gP_w8 := gP_w7.trans (hb_w8.mono gP_w7.size)
  clear kP_w7 gP_w7
  have kX_w8 := blk_next kX_w7 hb_w8
  have gX_w8 := gX_w7.trans (hb_w8.mono gX_w7.size)
  clear kX_w7 gX_w7
  obtain ⟨hC0, hC1, hC2, hCl⟩ := blk3 kC_w8
  obtain ⟨hX0, hX1, hX2, hXl⟩ := blk3 kX_w8
  go_wp2_with fail
  clear hC0 hC1 hC2 hCl hX0 hX1 hX2 hXl
  refine (HSC.out w8 A4 c4 ((SX.below gX_w8).more gX_w8.size) ((SC.below gC_w8).more gC_w8.size)).mono ?_
  rintro e w9 ⟨rfl, hb_w9⟩
  have kC_w9 := blk_next kC_w8 hb_w9
  have gC_w9 := gC_w8.trans (hb_w9.mono gC_w8.size)
  clear kC_w8 gC_w8
  have kL_w9 : True := trivial
  have gL_w9 := gL_w8.trans (hb_w9.mono gL_w8.size)
  clear kL_w8 gL_w8
  have kP_w9 := blk_next kP_w8 hb_w9
  have gP_w9 := gP_w8.trans (hb_w9.mono gP_w8.size)
  clear kP_w8 gP_w8
  have kX_w9 := blk_next kX_w8 hb_w9
  have gX_w9 := gX_w8.trans (hb_w9.mono gX_w8.size)
  clear kX_w8 gX_w8
  clear kP_w9 gP_w9
  clear kX_w9 gX_w9
  have hKw := hK.below (hb1.trans (gC_w9.mono hs1))
  have HAq := hide (fun q => HA0.out (w9.drewN q) (code_drewN hKw q))
  obtain ⟨hC0, hC1, hC2, hCl⟩ := blk3 kC_w9
  go_wp2
  go_quiet ((go_at_call 14; first | exact quiet_left (unhide HAq _) | exact quiet_add_left (unhide HAq _)))
  go_wp2_with fail
  rw [hKe]
  clear hC0 hC1 hC2 hCl
  have hb_w10 : Below w9.heap.size w9 (w9.drewN nq) := bel
  have kC_w10 := blk_next kC_w9 hb_w10
  have gC_w10 := gC_w9.trans (hb_w10.mono gC_w9.size)
  clear kC_w9 gC_w9
  have kL_w10 : True := trivial
  have gL_w10 := gL_w9.trans (hb_w10.mono gL_w9.size)
  clear kL_w9 gL_w9
  generalize (w9.drewN nq) = w10 at *
  clear HAq hKw
  have hKw := hK.below (hb1.trans (gC_w10.mono hs1))
  have HAq := hide (fun q => HA1.out (w10.drewN q) (code_drewN hKw q))
  obtain ⟨hC0, hC1, hC2, hCl⟩ := blk3 kC_w10
  go_wp2
  go_quiet ((go_at_call 14; first | exact quiet_left (unhide HAq _) | exact quiet_add_left (unhide HAq _)))
  go_wp2_with fail
  try rw [hT9]
  clear hC0 hC1 hC2 hCl
  have hb_w11 : Below w10.heap.size w10 (w10.drewN nq) := bel
  have kC_w11 := blk_next kC_w10 hb_w11
  have gC_w11 := gC_w10.trans (hb_w11.mono gC_w10.size)
  clear kC_w10 gC_w10
  have kL_w11 : True := trivial
  have gL_w11 := gL_w10.trans (hb_w11.mono gL_w10.size)
  clear kL_w10 gL_w10
  generalize (w10.drewN nq) = w11 at *
  clear HAq hKw
  refine (HWB.out w11 ((SC.below gC_w11).more gC_w11.size)).mono ?_
  rintro e w12 ⟨hres, hb_w12⟩
  have kC_w12 := blk_next kC_w11 hb_w12
  have gC_w12 := gC_w11.trans (hb_w12.mono gC_w11.size)
  clear kC_w11 gC_w11
  have kL_w12 : True := trivial
  have gL_w12 := gL_w11.trans (hb_w12.mono gL_w11.size)
  clear kL_w11 gL_w11
  obtain ⟨hk9, ad, rfl, hab, hcs, hsb⟩ := (SC.below gC_w12).at_ (k := K) hKn
  obtain ⟨sK, hsK⟩ : ∃ x, ss[K] = x := ⟨_, rfl⟩
  have HSK := Lib.hid hsK
  rw [hsK] at hcs hsb hres
  clear hsK
  have hadl : (ad.add K).block < w12.heap.size := by rw [block_of_add]; have := gC_w12.size; omega
  rcases hres with ⟨hno, rfl⟩ | ⟨F, Lb, hwide, rfl⟩
  · skip
    have HNO := Lib.hid hno
    clear hno
    obtain ⟨hC0, hC1, hC2, hCl⟩ := blk3 kC_w12
    go_wp2_with fail
    clear hC0 hC1 hC2 hCl
    have kB_w13 := blk_new w12 (.cells #[.int .i64 0, .int .i64 0, .int .i64 0] 39)
    have hb_w13 : Below w12.heap.size w12 (w12.alloc (.cells #[.int .i64 0, .int .i64 0, .int .i64 0] 39)) := bel
    have kC_w13 := blk_next kC_w12 hb_w13
    have gC_w13 := gC_w12.trans (hb_w13.mono gC_w12.size)
    clear kC_w12 gC_w12
    have kL_w13 : True := trivial
    have gL_w13 := gL_w12.trans (hb_w13.mono gL_w12.size)
    clear kL_w12 gL_w12
    have gB_w13 := hb_w13
    generalize (w12.alloc (.cells #[.int .i64 0, .int .i64 0, .int .i64 0] 39)) = w13 at *
    refine (s_CanRaise sK T _ hsb).mono ?_
    rw [HNO.out]
    rintro e w' ⟨rfl, m9, rfl⟩
    have hb_w14 : Below w13.heap.size w13 (w13.drewN m9) := bel
    have kC_w14 := blk_next kC_w13 hb_w14
    have gC_w14 := gC_w13.trans (hb_w14.mono gC_w13.size)
    clear kC_w13 gC_w13
    have kL_w14 : True := trivial
    have gL_w14 := gL_w13.trans (hb_w14.mono gL_w13.size)
    clear kL_w13 gL_w13
    have kB_w14 := blk_next kB_w13 hb_w14
    have gB_w14 := gB_w13.trans (hb_w14.mono gB_w13.size)
    clear kB_w13 gB_w13
    generalize (w13.drewN m9) = w14 at *
    go_wp2_with fail
    refine (HNB.out w14 ((SL.below gL_w14).more gL_w14.size)).mono ?_
    rintro e w15 ⟨A9, c9, rfl, hb_w15⟩
    have kC_w15 := blk_next kC_w14 hb_w15
    have gC_w15 := gC_w14.trans (hb_w15.mono gC_w14.size)
    clear kC_w14 gC_w14
    have kL_w15 : True := trivial
    have gL_w15 := gL_w14.trans (hb_w15.mono gL_w14.size)
    clear kL_w14 gL_w14
    have kB_w15 := blk_next kB_w14 hb_w15
    have gB_w15 := gB_w14.trans (hb_w15.mono gB_w14.size)
    clear kB_w14 gB_w14
    go_wp2
    go_ret
    exact ⟨rfl, hb1.trans (Below.mono (gC_w15.trans ((Below.refl _ _).alloc gC_w15.size _)) hs1)⟩
  · skip
    have hyes : cornerB 100 sK T = true := by rw [← HSK.out]; exact hwide.all K hK2 hwide.fk hwide.kl
    have HYES := Lib.hid hyes
    have hFK := hwide.fk
    have hKL := hwide.kl
    have hLn : Lb < n := by have := hwide.ln; rw [HN.out] at this; exact this
    have e1 := wide_can HCD.out hwide
    have e2 := wide_add HCD.out hwide
    have e3 := wide_take HCD.out hwide
    have e4 := wide_vol HCD.out hwide
    have e5 := wide_lo (d := (d : Int)) (f := (f : Int)) hwide
    have e6 := wide_hi (d := (d : Int)) (f := (f : Int)) hwide
    rw [HVOL.out] at e4
    have hyl : (flips T ss F (Lb + 1 - F)).length = n := by rw [flips_len]; exact HN.out
    have hyz : ∀ x ∈ flips T ss F (Lb + 1 - F), x.size ≤ 16777216 := fun x hx => by
      have hcy := card_bounds (cardOk_flips HCD.out hwide.allC)
      have := hcy.2.2 x hx
      omega
    obtain ⟨ys, hys⟩ : ∃ x, flips T ss F (Lb + 1 - F) = x := ⟨_, rfl⟩
    rw [hys] at e2 e3 e4 hyl hyz
    clear hys hwide hyes
    have kAdd : ∀ (W : World), Strs W W.heap.size (some ad) n ss → Calls Try.prog 17 #[.agg #[.int .i64 d, .int .i64 f, .slice (some ad) n c'], .agg #[.int .i64 (F : Int), .int .i64 (Lb : Int), .int .i64 T]] W fun e w' => ∃ A5 c5, e = .returned (.tuple #[.agg #[.int .i64 d, .int .i64 f, .slice A5 n c5], .bool true]) ∧ Strs w' w'.heap.size A5 n ys ∧ Below W.heap.size W w' := by
      intro W h
      have q := i_AddBox d f W.heap.size (some ad) n c' ss F Lb T W h (Nat.le_refl _)
      rw [e2] at q
      refine q.mono ?_
      rintro e w' ⟨A5, c5, rfl, ho, hb⟩
      rw [hyl] at ho ⊢
      exact ⟨A5, c5, rfl, strs_of_own ho (by omega) hyz, hb⟩
    have kTake : ∀ (W : World) (A5 : Option Addr) (c5 : Nat), Strs W W.heap.size A5 n ys → Calls Try.prog 18 #[.agg #[.int .i64 d, .int .i64 f, .slice A5 n c5], .agg #[.int .i64 (F : Int), .int .i64 (Lb : Int), .int .i64 T]] W fun e w' => ∃ A6 c6, e = .returned (.tuple #[.agg #[.int .i64 d, .int .i64 f, .slice A6 n c6], .bool true]) ∧ Strs w' w'.heap.size A6 n ss ∧ Below W.heap.size W w' := by
      intro W A5 c5 h
      have q := i_TakeBox d f W.heap.size A5 n c5 ys F Lb T W h (Nat.le_refl _)
      rw [e3] at q
      refine q.mono ?_
      rintro e w' ⟨A6, c6, rfl, ho, hb⟩
      rw [HN.out] at ho ⊢
      exact ⟨A6, c6, rfl, strs_of_own ho (by omega) HSZ.out, hb⟩
    have kCan : ∀ (W : World), Strs W W.heap.size (some ad) n ss → Calls Try.prog 19 #[.agg #[.int .i64 d, .int .i64 f, .slice (some ad) n c'], .agg #[.int .i64 (F : Int), .int .i64 (Lb : Int), .int .i64 T]] W fun e w' => e = .returned (.bool true) ∧ Below W.heap.size W w' := by
      intro W h
      have q := i_CanAdd d f W.heap.size (some ad) n c' ss F Lb T W h (Nat.le_refl _)
      rw [e1] at q
      exact q
    have kLo : ∀ (W : World), Strs W W.heap.size (some ad) n ss → Calls Try.prog 19 #[.agg #[.int .i64 d, .int .i64 f, .slice (some ad) n c'], .agg #[.int .i64 ((F : Int) - 1), .int .i64 (Lb : Int), .int .i64 T]] W fun e w' => e = .returned (.bool false) ∧ Below W.heap.size W w' := by
      intro W h
      have q := i_CanAdd d f W.heap.size (some ad) n c' ss ((F : Int) - 1) Lb T W h (Nat.le_refl _)
      rw [e5] at q
      exact q
    have kHi : ∀ (W : World), Strs W W.heap.size (some ad) n ss → Calls Try.prog 19 #[.agg #[.int .i64 d, .int .i64 f, .slice (some ad) n c'], .agg #[.int .i64 (F : Int), .int .i64 ((Lb : Int) + 1), .int .i64 T]] W fun e w' => e = .returned (.bool false) ∧ Below W.heap.size W w' := by
      intro W h
      have q := i_CanAdd d f W.heap.size (some ad) n c' ss F ((Lb : Int) + 1) T W h (Nat.le_refl _)
      rw [e6] at q
      exact q
    have kVY : ∀ (W : World) (A5 : Option Addr) (c5 : Nat), Strs W W.heap.size A5 n ys → Calls Try.prog 12 #[.agg #[.int .i64 d, .int .i64 f, .slice A5 n c5]] W fun e w' => e = .returned (.int .i64 ((N : Int) + Lb - F + 1)) ∧ Below W.heap.size W w' := by
      intro W A5 c5 h
      have q := s_VolumeOf d f W.heap.size A5 n c5 ys W h (Nat.le_refl _)
      rw [e4] at q
      exact q
    have HAD := hide kAdd
    have HTK := hide kTake
    have HCN := hide kCan
    have HLO := hide kLo
    have HHI := hide kHi
    have HVY := hide kVY
    clear kAdd kTake kCan kLo kHi kVY e1 e2 e3 e4 e5 e6
    skip
    obtain ⟨hC0, hC1, hC2, hCl⟩ := blk3 kC_w12
    go_wp2_with fail
    clear hC0 hC1 hC2 hCl
    have kB_w13 := blk_new w12 (.cells #[.int .i64 (F : Int), .int .i64 (Lb : Int), .int .i64 T] 39)
    have hb_w13 : Below w12.heap.size w12 (w12.alloc (.cells #[.int .i64 (F : Int), .int .i64 (Lb : Int), .int .i64 T] 39)) := bel
    have kC_w13 := blk_next kC_w12 hb_w13
    have gC_w13 := gC_w12.trans (hb_w13.mono gC_w12.size)
    clear kC_w12 gC_w12
    have kL_w13 : True := trivial
    have gL_w13 := gL_w12.trans (hb_w13.mono gL_w12.size)
    clear kL_w12 gL_w12
    have gB_w13 := hb_w13
    generalize (w12.alloc (.cells #[.int .i64 (F : Int), .int .i64 (Lb : Int), .int .i64 T] 39)) = w13 at *
    refine (s_CanRaise sK T _ hsb).mono ?_
    rw [HYES.out]
    rintro e w' ⟨rfl, m9, rfl⟩
    have hb_w14 : Below w13.heap.size w13 (w13.drewN m9) := bel
    have kC_w14 := blk_next kC_w13 hb_w14
    have gC_w14 := gC_w13.trans (hb_w14.mono gC_w13.size)
    clear kC_w13 gC_w13
    have kL_w14 : True := trivial
    have gL_w14 := gL_w13.trans (hb_w14.mono gL_w13.size)
    clear kL_w13 gL_w13
    have kB_w14 := blk_next kB_w13 hb_w14
    have gB_w14 := gB_w13.trans (hb_w14.mono gB_w13.size)
    clear kB_w13 gB_w13
    generalize (w13.drewN m9) = w14 at *
    have hcs : True := trivial; clear hcs
    obtain ⟨hC0, hC1, hC2, hCl⟩ := blk3 kC_w14
    obtain ⟨hB0, hB1, hB2, hBl⟩ := blk3 kB_w14
    go_wp2_with fail
    clear hC0 hC1 hC2 hCl hB0 hB1 hB2 hBl
    refine (HAD.out w14 ((SC.below gC_w14).more gC_w14.size)).mono ?_
    rintro e w15 ⟨A5, c5, rfl, SY, hb_w15⟩
    have kC_w15 := blk_next kC_w14 hb_w15
    have gC_w15 := gC_w14.trans (hb_w15.mono gC_w14.size)
    clear kC_w14 gC_w14
    have kL_w15 : True := trivial
    have gL_w15 := gL_w14.trans (hb_w15.mono gL_w14.size)
    clear kL_w14 gL_w14
    have kB_w15 := blk_next kB_w14 hb_w15
    have gB_w15 := gB_w14.trans (hb_w15.mono gB_w14.size)
    clear kB_w14 gB_w14
    obtain ⟨hB0, hB1, hB2, hBl⟩ := blk3 kB_w15
    go_wp2_with fail
    clear hB0 hB1 hB2 hBl
    have kY_w16 := blk_new w15 (.cells #[.int .i64 d, .int .i64 f, .slice A5 n c5] 26)
    have hb_w16 : Below w15.heap.size w15 (w15.alloc (.cells #[.int .i64 d, .int .i64 f, .slice A5 n c5] 26)) := bel
    have kC_w16 := blk_next kC_w15 hb_w16
    have gC_w16 := gC_w15.trans (hb_w16.mono gC_w15.size)
    clear kC_w15 gC_w15
    have kL_w16 : True := trivial
    have gL_w16 := gL_w15.trans (hb_w16.mono gL_w15.size)
    clear kL_w15 gL_w15
    have kB_w16 := blk_next kB_w15 hb_w16
    have gB_w16 := gB_w15.trans (hb_w16.mono gB_w15.size)
    clear kB_w15 gB_w15
    have gY_w16 := hb_w16
    generalize (w15.alloc (.cells #[.int .i64 d, .int .i64 f, .slice A5 n c5] 26)) = w16 at *
    refine (HTK.out w16 A5 c5 ((SY.below gY_w16).more gY_w16.size)).mono ?_
    rintro e w17 ⟨A6, c6, rfl, SZ, hb_w17⟩
    have kC_w17 := blk_next kC_w16 hb_w17
    have gC_w17 := gC_w16.trans (hb_w17.mono gC_w16.size)
    clear kC_w16 gC_w16
    have kL_w17 : True := trivial
    have gL_w17 := gL_w16.trans (hb_w17.mono gL_w16.size)
    clear kL_w16 gL_w16
    have kB_w17 := blk_next kB_w16 hb_w17
    have gB_w17 := gB_w16.trans (hb_w17.mono gB_w16.size)
    clear kB_w16 gB_w16
    have kY_w17 := blk_next kY_w16 hb_w17
    have gY_w17 := gY_w16.trans (hb_w17.mono gY_w16.size)
    clear kY_w16 gY_w16
    obtain ⟨hC0, hC1, hC2, hCl⟩ := blk3 kC_w17
    obtain ⟨hB0, hB1, hB2, hBl⟩ := blk3 kB_w17
    obtain ⟨hY0, hY1, hY2, hYl⟩ := blk3 kY_w17
    go_wp2_with fail
    clear hC0 hC1 hC2 hCl hB0 hB1 hB2 hBl hY0 hY1 hY2 hYl
    have kZ_w18 := blk_new w17 (.cells #[.int .i64 d, .int .i64 f, .slice A6 n c6] 26)
    have hb_w18 : Below w17.heap.size w17 (w17.alloc (.cells #[.int .i64 d, .int .i64 f, .slice A6 n c6] 26)) := bel
    have kC_w18 := blk_next kC_w17 hb_w18
    have gC_w18 := gC_w17.trans (hb_w18.mono gC_w17.size)
    clear kC_w17 gC_w17
    have kL_w18 : True := trivial
    have gL_w18 := gL_w17.trans (hb_w18.mono gL_w17.size)
    clear kL_w17 gL_w17
    have kB_w18 := blk_next kB_w17 hb_w18
    have gB_w18 := gB_w17.trans (hb_w18.mono gB_w17.size)
    clear kB_w17 gB_w17
    have kY_w18 := blk_next kY_w17 hb_w18
    have gY_w18 := gY_w17.trans (hb_w18.mono gY_w17.size)
    clear kY_w17 gY_w17
    have gZ_w18 := hb_w18
    generalize (w17.alloc (.cells #[.int .i64 d, .int .i64 f, .slice A6 n c6] 26)) = w18 at *
    have hg1 : decide ((F : Int) > (K : Int)) = false := decide_eq_false (by omega)
    have hg2 : decide ((Lb : Int) < (K : Int)) = false := decide_eq_false (by omega)
    have hg1' : decide ((K : Int) < (F : Int)) = false := decide_eq_false (by omega)
    have hg3 : decide (K < F) = false := decide_eq_false (by omega)
    have hg4 : decide (Lb < K) = false := decide_eq_false (by omega)
    have hg5 : ¬ K < F := by omega
    have hg6 : ¬ Lb < K := by omega
    have hv1 : IntKind.i64.wrap ((N : Int) + Lb) = (N : Int) + Lb := w64 (by omega)
    have hv2 : IntKind.i64.wrap ((N : Int) + Lb - F) = (N : Int) + Lb - F := w64 (by omega)
    have hv3 : IntKind.i64.wrap ((N : Int) + Lb - F + 1) = (N : Int) + Lb - F + 1 := w64 (by omega)
    have hbW := fun d_ os => below_regrown w18 d_ os
    have hsame : ∀ d_ os, Calls Try.prog 13 #[.agg #[.int .i64 d, .int .i64 f, .slice A6 n c6], .agg #[.int .i64 d, .int .i64 f, .slice (some ad) n c']] (Go.Sort.grow (redrawn w18 d_) os) fun e w'' => e = .returned (.bool true) ∧ ∃ p : Regrown, w'' = Go.Sort.grow (redrawn w18 p.d) p.os := fun d_ os => Calls.regrown_of (HSC.out _ A6 c6 ((((SZ.below gZ_w18).more gZ_w18.size).below (hbW d_ os)).more (hbW d_ os).size) ((((SC.below gC_w18).more gC_w18.size).below (hbW d_ os)).more (hbW d_ os).size))
    have hcan : ∀ d_ os, Calls Try.prog 19 #[.agg #[.int .i64 d, .int .i64 f, .slice (some ad) n c'], .agg #[.int .i64 (F : Int), .int .i64 (Lb : Int), .int .i64 T]] (Go.Sort.grow (redrawn w18 d_) os) fun e w'' => e = .returned (.bool true) ∧ ∃ p : Regrown, w'' = Go.Sort.grow (redrawn w18 p.d) p.os := fun d_ os => Calls.regrown_of (HCN.out _ ((((SC.below gC_w18).more gC_w18.size).below (hbW d_ os)).more (hbW d_ os).size))
    have hvy : ∀ d_ os, Calls Try.prog 12 #[.agg #[.int .i64 d, .int .i64 f, .slice A5 n c5]] (Go.Sort.grow (redrawn w18 d_) os) fun e w'' => e = .returned (.int .i64 ((N : Int) + Lb - F + 1)) ∧ ∃ p : Regrown, w'' = Go.Sort.grow (redrawn w18 p.d) p.os := fun d_ os => Calls.regrown_of (HVY.out _ A5 c5 ((((SY.below gY_w18).more gY_w18.size).below (hbW d_ os)).more (hbW d_ os).size))
    have hvc : ∀ d_ os, Calls Try.prog 12 #[.agg #[.int .i64 d, .int .i64 f, .slice (some ad) n c']] (Go.Sort.grow (redrawn w18 d_) os) fun e w'' => e = .returned (.int .i64 (N : Int)) ∧ ∃ p : Regrown, w'' = Go.Sort.grow (redrawn w18 p.d) p.os := fun d_ os => Calls.regrown_of (HVC.out _ ((((SC.below gC_w18).more gC_w18.size).below (hbW d_ os)).more (hbW d_ os).size))
    have ZS := hide hsame
    have ZC := hide hcan
    have ZY := hide hvy
    have ZV := hide hvc
    clear hsame hcan hvy hvc
    obtain ⟨hC0, hC1, hC2, hCl⟩ := blk3 kC_w18
    have rC0 := cell_regrown hC0
    have rC1 := cell_regrown hC1
    have rC2 := cell_regrown hC2
    obtain ⟨hZ0, hZ1, hZ2, hZl⟩ := blk3 kZ_w18
    have rZ0 := cell_regrown hZ0
    have rZ1 := cell_regrown hZ1
    have rZ2 := cell_regrown hZ2
    obtain ⟨hY0, hY1, hY2, hYl⟩ := blk3 kY_w18
    have rY0 := cell_regrown hY0
    have rY1 := cell_regrown hY1
    have rY2 := cell_regrown hY2
    obtain ⟨hB0, hB1, hB2, hBl⟩ := blk3 kB_w18
    have rB0 := cell_regrown hB0
    have rB1 := cell_regrown hB1
    have rB2 := cell_regrown hB2
    go_wp2_with fail
    refine wp_region_quiet_below (by kernel_rfl) (lexB_of (by kernel_rfl)) ?_
    try dsimp only [List.append]
    repeat (go_big_quiet_step (first | (go_at_call 13; exact ZS.out _ _) | (go_at_call 19; exact ZC.out _ _) | (go_at_call_of 12 (Value.agg #[.int .i64 d, .int .i64 f, .slice A5 n c5]); exact ZY.out _ _) | (go_at_call_of 12 (Value.agg #[.int .i64 d, .int .i64 f, .slice (some ad) n c']); exact ZV.out _ _)))
    refine wpQuiet_nil ?_
    intro _ hw'
    obtain ⟨⟨dq, osq⟩, hw''⟩ := hw'
    subst hw''
    clear rC0 rC1 rC2 hC0 hC1 hC2 hCl rZ0 rZ1 rZ2 hZ0 hZ1 hZ2 hZl rY0 rY1 rY2 hY0 hY1 hY2 hYl rB0 rB1 rB2 hB0 hB1 hB2 hBl
    have hbg := below_regrown w18 dq osq
    generalize Go.Sort.grow (redrawn w18 dq) osq = w19 at *
    clear ZS ZC ZY ZV hbW hg1 hg2 hg1' hg3 hg4 hg5 hg6 hv1 hv2 hv3
    have kC_w19 := blk_next kC_w18 hbg
    have gC_w19 := gC_w18.trans (hbg.mono gC_w18.size)
    clear kC_w18 gC_w18
    have kL_w19 : True := trivial
    have gL_w19 := gL_w18.trans (hbg.mono gL_w18.size)
    clear kL_w18 gL_w18
    have kB_w19 := blk_next kB_w18 hbg
    have gB_w19 := gB_w18.trans (hbg.mono gB_w18.size)
    clear kB_w18 gB_w18
    have kY_w19 := blk_next kY_w18 hbg
    have gY_w19 := gY_w18.trans (hbg.mono gY_w18.size)
    clear kY_w18 gY_w18
    have kZ_w19 := blk_next kZ_w18 hbg
    have gZ_w19 := gZ_w18.trans (hbg.mono gZ_w18.size)
    clear kZ_w18 gZ_w18
    clear kY_w19 gY_w19
    clear kZ_w19 gZ_w19
    have hu1 : IntKind.i64.wrap ((F : Int) - 1) = (F : Int) - 1 := w64 (by omega)
    have hu2 : IntKind.i64.wrap ((Lb : Int) + 1) = (Lb : Int) + 1 := w64 (by omega)
    obtain ⟨hC0, hC1, hC2, hCl⟩ := blk3 kC_w19
    obtain ⟨hB0, hB1, hB2, hBl⟩ := blk3 kB_w19
    go_wp2_with fail
    clear hC0 hC1 hC2 hCl hB0 hB1 hB2 hBl
    try rw [hu1]
    have kV_w20 := blk_new w19 (.cells #[.int .i64 ((F : Int) - 1), .int .i64 (Lb : Int), .int .i64 T] 39)
    have hb_w20 : Below w19.heap.size w19 (w19.alloc (.cells #[.int .i64 ((F : Int) - 1), .int .i64 (Lb : Int), .int .i64 T] 39)) := bel
    have kC_w20 := blk_next kC_w19 hb_w20
    have gC_w20 := gC_w19.trans (hb_w20.mono gC_w19.size)
    clear kC_w19 gC_w19
    have kL_w20 : True := trivial
    have gL_w20 := gL_w19.trans (hb_w20.mono gL_w19.size)
    clear kL_w19 gL_w19
    have kB_w20 := blk_next kB_w19 hb_w20
    have gB_w20 := gB_w19.trans (hb_w20.mono gB_w19.size)
    clear kB_w19 gB_w19
    have gV_w20 := hb_w20
    generalize (w19.alloc (.cells #[.int .i64 ((F : Int) - 1), .int .i64 (Lb : Int), .int .i64 T] 39)) = w20 at *
    refine (HLO.out w20 ((SC.below gC_w20).more gC_w20.size)).mono ?_
    rintro e w21 ⟨rfl, hb_w21⟩
    have kC_w21 := blk_next kC_w20 hb_w21
    have gC_w21 := gC_w20.trans (hb_w21.mono gC_w20.size)
    clear kC_w20 gC_w20
    have kL_w21 : True := trivial
    have gL_w21 := gL_w20.trans (hb_w21.mono gL_w20.size)
    clear kL_w20 gL_w20
    have kB_w21 := blk_next kB_w20 hb_w21
    have gB_w21 := gB_w20.trans (hb_w21.mono gB_w20.size)
    clear kB_w20 gB_w20
    have kV_w21 := blk_next kV_w20 hb_w21
    have gV_w21 := gV_w20.trans (hb_w21.mono gV_w20.size)
    clear kV_w20 gV_w20
    obtain ⟨hC0, hC1, hC2, hCl⟩ := blk3 kC_w21
    obtain ⟨hB0, hB1, hB2, hBl⟩ := blk3 kB_w21
    go_wp2_with fail
    clear hC0 hC1 hC2 hCl hB0 hB1 hB2 hBl
    try rw [hu2]
    refine (HHI.out w21 ((SC.below gC_w21).more gC_w21.size)).mono ?_
    rintro e w22 ⟨rfl, hb_w22⟩
    have kC_w22 := blk_next kC_w21 hb_w22
    have gC_w22 := gC_w21.trans (hb_w22.mono gC_w21.size)
    clear kC_w21 gC_w21
    have kL_w22 : True := trivial
    have gL_w22 := gL_w21.trans (hb_w22.mono gL_w21.size)
    clear kL_w21 gL_w21
    have kB_w22 := blk_next kB_w21 hb_w22
    have gB_w22 := gB_w21.trans (hb_w22.mono gB_w21.size)
    clear kB_w21 gB_w21
    have kV_w22 := blk_next kV_w21 hb_w22
    have gV_w22 := gV_w21.trans (hb_w22.mono gV_w21.size)
    clear kV_w21 gV_w21
    go_wp2_with fail
    refine (HNB.out w22 ((SL.below gL_w22).more gL_w22.size)).mono ?_
    rintro e w23 ⟨A9, c9, rfl, hb_w23⟩
    have kC_w23 := blk_next kC_w22 hb_w23
    have gC_w23 := gC_w22.trans (hb_w23.mono gC_w22.size)
    clear kC_w22 gC_w22
    have kL_w23 : True := trivial
    have gL_w23 := gL_w22.trans (hb_w23.mono gL_w22.size)
    clear kL_w22 gL_w22
    have kB_w23 := blk_next kB_w22 hb_w23
    have gB_w23 := gB_w22.trans (hb_w23.mono gB_w22.size)
    clear kB_w22 gB_w22
    have kV_w23 := blk_next kV_w22 hb_w23
    have gV_w23 := gV_w22.trans (hb_w23.mono gV_w22.size)
    clear kV_w22 gV_w22
    go_wp2
    go_ret
    exact ⟨rfl, hb1.trans (Below.mono (gC_w23.trans ((Below.refl _ _).alloc gC_w23.size _)) hs1)⟩
end Go.Proofs.Ytccjedongkokoaa.fnBoxes
