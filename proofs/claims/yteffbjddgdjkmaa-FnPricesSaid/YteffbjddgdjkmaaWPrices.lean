/- FnPrices: the walk. -/
import Derived.Test.YteffbjddgdjkmaaPrice2
import Derived.Test.YteffbjddgdjkmaaLawDraw
import Derived.Test.YteffbjddgdjkmaaBox4
import Derived.Test.YteffbjddgdjkmaaFold2
import Derived.Test.YteffbjddgdjkmaaLexC
import Derived.Sort.AtCall
import Derived.BigQuiet
namespace Go.Proofs.Yteffbjddgdjkmaa.fnPrices
open Go.ChangeShapes Go.WideShapes Go.ChangeAt Go.RowKit
set_option linter.unusedVariables false
set_option linter.unusedSimpArgs false
set_option maxRecDepth 10000

theorem drew_ok {d f : Nat} {ss : List ByteArray} (hb : 1 ≤ d ∧ d ≤ 4 ∧ 1 ≤ f ∧ f ≤ 4) (h1 : 1 ≤ ss.length) (h2 : ss.length ≤ 10) (h : ∀ x ∈ ss, Drew d f x) : cardOk d f ss = true := by
  have hall : ss.all (stripOf d f) = true := List.all_eq_true.2 fun x hx => by
    have hD := h x hx
    have hst := drew_strip hD hb.1 (by omega) hb.2.2.1 (by omega)
    obtain ⟨k1, k2, k3⟩ := hD
    unfold stripOf downOf forwardOf
    rw [hst, k1, k2]
    simp
  unfold cardOk
  rw [hall]
  simp [isStepsB, inB]
  omega
set_option maxHeartbeats 400000 in
theorem l_btoi (b : Bool) (w : World) : Calls Try.prog 23 #[.bool b] w fun e w' => e = .returned (.int .i64 (if b = true then 1 else 0)) ∧ w = w' := by
  cases b
  · go_enter Try.func23, Try.ntmps23
    go_wp2
    go_ret
    exact ⟨rfl, rfl⟩
  · go_enter Try.func23, Try.ntmps23
    go_wp2
    go_ret
    exact ⟨rfl, rfl⟩
theorem w64 {x : Int} (h : -1000000000000 ≤ x ∧ x ≤ 1000000000000) : IntKind.i64.wrap x = x := by rw [IntKind.wrap_i64]; omega
theorem leafBox {wf wi : World} {T : Int} (hb : Below wi.heap.size wi wf) :
    ∃ g : Nat, Value.pointer (some ⟨wf.heap.size, 0, none⟩) = .pointer (some ⟨g, 0, none⟩) ∧ (wf.alloc (.cells #[.int .i64 0, .int .i64 0, .int .i64 T] 35)).heap[g]? = some (.cells #[.int .i64 0, .int .i64 0, .int .i64 T] 35 (0, 0)) ∧ wi.heap.size ≤ g ∧ Below wi.heap.size wi (wf.alloc (.cells #[.int .i64 0, .int .i64 0, .int .i64 T] 35)) :=
  ⟨_, rfl, blk_new _ _, hb.size, hb.alloc hb.size _⟩
set_option maxHeartbeats 12800000 in
theorem walkPrices (A : Option Addr) (c : Nat) (bs : List Int) (w : World) (hK : Code w w.heap.size A bs) :
    Calls Try.prog 3 #[.slice A bs.length c] w fun e w' => e = .returned (.bool true) ∧ Below w.heap.size w w' := by
  have hnb := hK.nb
  have hd : decide (1048576 < bs.length) = false := by simp; omega
  go_enter Try.func3, Try.ntmps3
  go_wp2_with (go_at_call 10; refine (l_big _ _ _ _ (by omega)).mono ?_; rw [hd]; rintro e w' ⟨rfl, rfl⟩)
  refine (s_DrawCard w.heap.size A c bs w hK (Nat.le_refl _)).mono ?_
  rintro e w1 ⟨d, f, ss, A', c', hbd, hss, rfl, ho1, hb1⟩
  have hsz : ∀ x ∈ ss, x.size ≤ 16777216 := fun x hx => by have := (hss x hx).2.2; omega
  have hc := drew_ok (by omega) (by omega) (by omega) hss
  have SC : Strs w1 w1.heap.size A' ss.length ss := ho1.rd (by omega) hsz
  have hs1 := hb1.size
  obtain ⟨X0, hX0⟩ : ∃ X, atV bs 0 = X := ⟨_, rfl⟩
  have hx0 := atV_bd hK.bd 0
  have kAt0 := fun (W : World) (h : Code W w.heap.size A bs) => l_at 0 w.heap.size A c bs W h (by omega)
  rw [hX0] at kAt0 hx0
  clear hX0
  have HA0 := hide kAt0
  clear kAt0
  obtain ⟨X1, hX1⟩ : ∃ X, atV bs 1 = X := ⟨_, rfl⟩
  have hx1 := atV_bd hK.bd 1
  have kAt1 := fun (W : World) (h : Code W w.heap.size A bs) => l_at 1 w.heap.size A c bs W h (by omega)
  rw [hX1] at kAt1 hx1
  clear hX1
  have HA1 := hide kAt1
  clear kAt1
  obtain ⟨X2, hX2⟩ : ∃ X, atV bs 2 = X := ⟨_, rfl⟩
  have hx2 := atV_bd hK.bd 2
  have kAt2 := fun (W : World) (h : Code W w.heap.size A bs) => l_at 2 w.heap.size A c bs W h (by omega)
  rw [hX2] at kAt2 hx2
  clear hX2
  have HA2 := hide kAt2
  clear kAt2
  obtain ⟨X3, hX3⟩ : ∃ X, atV bs 3 = X := ⟨_, rfl⟩
  have hx3 := atV_bd hK.bd 3
  have kAt3 := fun (W : World) (h : Code W w.heap.size A bs) => l_at 3 w.heap.size A c bs W h (by omega)
  rw [hX3] at kAt3 hx3
  clear hX3
  have HA3 := hide kAt3
  clear kAt3
  obtain ⟨n, hn⟩ : ∃ n, ss.length = n := ⟨_, rfl⟩
  have HN := Lib.hid hn
  rw [hn] at hbd SC ⊢
  clear hn
  have hn16 := hbd.2.2.2.2
  obtain ⟨T, hT⟩ : ∃ T : Int, 1 + X1 % ((d : Int) + f) = T := ⟨_, rfl⟩
  have HT := Lib.hid hT
  have hm1 := Int.emod_nonneg X1 (show (d : Int) + f ≠ 0 by omega)
  have hm2 := Int.emod_lt_of_pos X1 (show 0 < (d : Int) + f by omega)
  have hwdf : IntKind.i64.wrap ((d : Int) + f) = d + f := w64 (by omega)
  have hwT : IntKind.i64.wrap (1 + X1 % ((d : Int) + f)) = 1 + X1 % ((d : Int) + f) := w64 (by omega)
  have hnzdf : ¬ (d : Int) + f = 0 := by omega
  obtain ⟨p, hp⟩ : ∃ p : Int, X0 % 9 = p := ⟨_, rfl⟩
  have hp0 : 0 ≤ p ∧ p ≤ 8 := by omega
  have HC := Lib.hid hc
  have HSZ := hide hsz
  clear hss hsz ho1 hT hm1 hm2 hc
  go_wp2_with fail
  have kC_w2 := blk_new w1 (.cells #[.int .i64 d, .int .i64 f, .slice A' n c'] 26)
  have hb_w2 : Below w1.heap.size w1 (w1.alloc (.cells #[.int .i64 d, .int .i64 f, .slice A' n c'] 26)) := bel
  have gC_w2 := hb_w2
  generalize (w1.alloc (.cells #[.int .i64 d, .int .i64 f, .slice A' n c'] 26)) = w2 at *
  refine (s_DrawRates w.heap.size A c bs w2 (hK.below (hb1.trans (gC_w2.mono hs1))) (Nat.le_trans hs1 gC_w2.size)).mono ?_
  rintro e w3 ⟨S, C, F, P, hr, rfl, hb_w3⟩
  have kC_w3 := blk_next kC_w2 hb_w3
  have gC_w3 := gC_w2.trans (hb_w3.mono gC_w2.size)
  clear kC_w2 gC_w2
  obtain ⟨hr1, hr2⟩ := rates_small hr
  unfold RatesIn at hr
  have hV := cost_small HC.out hr1 (by omega) (by omega) (by omega)
  have hVe0 := costOf_yes HC.out hr1
  have htw := cost_twice HC.out hr1 hr2
  have kCost := fun (W : World) (h : Strs W w1.heap.size A' n ss) (hz : w1.heap.size ≤ W.heap.size) => i_CostOf d f S C F P w1.heap.size A' n c' ss W h hz
  have kCostP := fun (W : World) (h : Strs W w1.heap.size A' n ss) (hz : w1.heap.size ≤ W.heap.size) => i_CostP p d f S C F P hp0.1 hp0.2 w1.heap.size A' n c' ss W h hz HC.out hr1
  have kTwice := fun (W : World) (h : Strs W w1.heap.size A' n ss) (hz : w1.heap.size ≤ W.heap.size) => i_CostP p d f (2 * S) (2 * C) (2 * F) (2 * P) hp0.1 hp0.2 w1.heap.size A' n c' ss W h hz HC.out hr2
  have kTile := fun (W : World) (h : Strs W w1.heap.size A' n ss) (hz : w1.heap.size ≤ W.heap.size) => s_TileCount d f w1.heap.size A' n c' ss W h hz
  have kCut := fun (W : World) (h : Strs W w1.heap.size A' n ss) (hz : w1.heap.size ≤ W.heap.size) => s_CutLength d f w1.heap.size A' n c' ss W h hz
  have kRok := fun (W : World) => i_RatesOk S C F P W
  rw [hr1] at kRok
  have kEq := fun (W : World) (h : Strs W w1.heap.size A' n ss) (hz : w1.heap.size ≤ W.heap.size) => i_CheaperCard d f S C F P _ _ w1.heap.size A' A' n c' n c' ss ss W h h hz rfl rfl hV.1 hV.1
  have t1 := tiles_bd HC.out
  have ht0 : 0 ≤ tilesOf d f ss := by
    unfold tilesOf; rw [HC.out]; exact Int.mul_nonneg (by omega) (by omega)
  have hl0 : 0 ≤ cutLen d f ss ∧ cutLen d f ss ≤ 1000 := by
    have hk := cutSum_strip (fun x hx => strip_size (cardOk_strips HC.out x hx)) ss.length (Nat.le_refl _)
    unfold cutLen; rw [HC.out]
    have := HN.out
    show 0 ≤ ((cutSum ss ss.length : Nat) : Int) ∧ ((cutSum ss ss.length : Nat) : Int) ≤ 1000
    omega
  have hfs := foldSum_strip (cardOk_strips HC.out) ss.length (Nat.le_refl _)
  have hall := fun (j : Nat) (hj : j ≤ ss.length) => foldSum_strip (cardOk_strips HC.out) j hj
  obtain ⟨V, hVd⟩ : ∃ V, costOf d f ss S C F P = V := ⟨_, rfl⟩
  obtain ⟨T0, hT0⟩ : ∃ V, tilesOf d f ss = V := ⟨_, rfl⟩
  obtain ⟨K0, hK0⟩ : ∃ V, cutLen d f ss = V := ⟨_, rfl⟩
  rw [HN.out] at hfs hVe0
  obtain ⟨G0, hG0⟩ : ∃ V, foldSum ss n = V := ⟨_, rfl⟩
  have HG0 := Lib.hid hG0
  rw [htw] at kTwice
  rw [hVd] at hV hVe0 kCost kCostP kTwice kEq
  rw [hT0] at hVe0 kTile t1 ht0
  rw [hK0] at hVe0 kCut hl0
  rw [hG0] at hVe0 hfs
  rw [show cheapRes V V = 0 by unfold cheapRes; rw [if_neg (by omega), if_neg (by omega)]] at kEq
  rw [Int.mul_comm P p] at kCostP
  rw [show 2 * V + 2 * P * p = 2 * (V + p * P) by rw [Int.mul_add, Int.mul_assoc, Int.mul_comm P p]] at kTwice
  have HVd := Lib.hid hVd
  clear hT0 hK0 hG0 htw hVd
  have b1 := Int.mul_le_mul (show S ≤ 20 by omega) t1.2 ht0 (by omega)
  have b2 := Int.mul_le_mul (show C ≤ 20 by omega) hl0.2 hl0.1 (by omega)
  have b3 := Int.mul_le_mul (show F ≤ 20 by omega) (show G0 ≤ 1000 by omega) hfs.1 (by omega)
  have b4 := mulP (P := P) (p := p) (by omega) (by omega) hp0.1 hp0.2
  rw [Int.mul_comm P p] at b4
  have a1 := Int.mul_nonneg (show 0 ≤ S by omega) ht0
  have a2 := Int.mul_nonneg (show 0 ≤ C by omega) hl0.1
  have a3 := Int.mul_nonneg (show 0 ≤ F by omega) hfs.1
  have m1 := w64 (x := S * T0) (by omega)
  have m2 := w64 (x := C * K0) (by omega)
  have m3 := w64 (x := F * G0) (by omega)
  have m4 := w64 (x := S * T0 + C * K0) (by omega)
  have m5 := w64 (x := V) (by omega)
  have m6 := w64 (x := p * P) (by omega)
  have m7 := w64 (x := V + p * P) (by omega)
  have m8 := w64 (x := 2 * (V + p * P)) (by omega)
  have s1 := w64 (x := 2 * S) (by omega)
  have s2 := w64 (x := 2 * C) (by omega)
  have s3 := w64 (x := 2 * F) (by omega)
  have s4 := w64 (x := 2 * P) (by omega)
  have hcp := w64 (x := 1 + X2) (by omega)
  obtain ⟨pl1, pl2, pl3, pl4, pl5, pl6, pl7⟩ := price_law hV.1 hV.2 (show 1 ≤ 1 + X2 by omega) (by omega) hx3.1 hx3.2
  have kOne := fun (W : World) => i_PriceFor V 1 X3 W hV.1 (by omega) (by omega) (by omega) hx3.1 (by omega)
  have kMany := fun (W : World) => i_PriceFor V (1 + X2) X3 W hV.1 (by omega) (by omega) (by omega) hx3.1 (by omega)
  have kP0 : ∀ W : World, Calls Try.prog 18 #[.int .i64 100, .int .i64 50, .int .i64 0] W fun e w' => e = .returned (.int .i64 4500) ∧ W = w' := fun W => i_PriceFor 100 50 0 W (by omega) (by omega) (by omega) (by omega) (by omega) (by omega)
  obtain ⟨O1, hO1⟩ : ∃ x, priceOf V 1 X3 = x := ⟨_, rfl⟩
  obtain ⟨M1, hM1⟩ : ∃ x, priceOf V (1 + X2) X3 = x := ⟨_, rfl⟩
  change ∀ W : World, Calls Try.prog 18 #[.int .i64 V, .int .i64 1, .int .i64 X3] W fun e w' => e = .returned (.int .i64 (priceOf V 1 X3)) ∧ W = w' at kOne
  change ∀ W : World, Calls Try.prog 18 #[.int .i64 V, .int .i64 (1 + X2), .int .i64 X3] W fun e w' => e = .returned (.int .i64 (priceOf V (1 + X2) X3)) ∧ W = w' at kMany
  rw [hO1] at kOne pl1 pl2 pl3 pl4 pl5
  rw [hM1] at kMany pl2 pl3 pl6 pl7
  have b5 := Int.mul_le_mul (show 1 + X2 ≤ 256 by omega) pl5 pl4 (by omega)
  have b6 := Int.mul_nonneg (show 0 ≤ 1 + X2 by omega) pl4
  have m9 := w64 (x := (1 + X2) * O1) (by omega)
  have HCost := hide kCost
  have HCostP := hide kCostP
  have HTwice := hide kTwice
  have HTile := hide kTile
  have HCut := hide kCut
  have HRok := hide kRok
  have HEq := hide kEq
  have HOne := hide kOne
  have HMany := hide kMany
  have HP0 := hide kP0
  have HVe := Lib.hid hVe0.symm
  have HALL := hide hall
  have HR1 := Lib.hid hr1
  clear kCost kCostP kTwice kTile kCut kRok kEq kOne kMany kP0 hVe0 hall hr1 hr2 hO1 hM1 a1 a2 a3 b1 b2 b3 b4 b5 b6 t1 ht0 hl0
  obtain ⟨hC0, hC1, hC2, hCl⟩ := blk3 kC_w3
  go_wp2_with fail
  clear hC0 hC1 hC2 hCl
  have kR_w4 := blk_new w3 (.cells #[.int .i64 S, .int .i64 C, .int .i64 F, .int .i64 P] 29)
  have hb_w4 : Below w3.heap.size w3 (w3.alloc (.cells #[.int .i64 S, .int .i64 C, .int .i64 F, .int .i64 P] 29)) := bel
  have kC_w4 := blk_next kC_w3 hb_w4
  have gC_w4 := gC_w3.trans (hb_w4.mono gC_w3.size)
  clear kC_w3 gC_w3
  have gR_w4 := hb_w4
  generalize (w3.alloc (.cells #[.int .i64 S, .int .i64 C, .int .i64 F, .int .i64 P] 29)) = w4 at *
  refine (HCost.out w4 (SC.below gC_w4) gC_w4.size).mono ?_
  rintro e w5 ⟨rfl, hb_w5⟩
  have kC_w5 := blk_next kC_w4 hb_w5
  have gC_w5 := gC_w4.trans (hb_w5.mono gC_w4.size)
  clear kC_w4 gC_w4
  have kR_w5 := blk_next kR_w4 hb_w5
  have gR_w5 := gR_w4.trans (hb_w5.mono gR_w4.size)
  clear kR_w4 gR_w4
  go_wp2_with fail
  obtain ⟨hR0, hR1, hR2, hR3, hRl⟩ := blk4 kR_w5
  refine (HA0.out w5 (hK.below (hb1.trans (gC_w5.mono hs1)))).mono ?_
  rintro e w' ⟨rfl, rfl⟩
  go_wp2
  clear hR0 hR1 hR2 hR3 hRl
  try rw [hp]
  have kW_w6 := blk_new w5 (.cells #[.int .i64 (2 * S), .int .i64 (2 * C), .int .i64 (2 * F), .int .i64 (2 * P)] 29)
  have hb_w6 : Below w5.heap.size w5 (w5.alloc (.cells #[.int .i64 (2 * S), .int .i64 (2 * C), .int .i64 (2 * F), .int .i64 (2 * P)] 29)) := bel
  have kC_w6 := blk_next kC_w5 hb_w6
  have gC_w6 := gC_w5.trans (hb_w6.mono gC_w5.size)
  clear kC_w5 gC_w5
  have kR_w6 := blk_next kR_w5 hb_w6
  have gR_w6 := gR_w5.trans (hb_w6.mono gR_w5.size)
  clear kR_w5 gR_w5
  have gW_w6 := hb_w6
  generalize (w5.alloc (.cells #[.int .i64 (2 * S), .int .i64 (2 * C), .int .i64 (2 * F), .int .i64 (2 * P)] 29)) = w6 at *
  go_loopw [8, 9] (fun q i wr => ∃ (j : Nat) (G : Int), j ≤ n ∧ i = .int .i64 j ∧ q = .int .i64 G ∧ Hid (G = foldSum ss j) ∧ Below w6.heap.size w6 wr) (fun _ i _ => n - (intOf i).toNat)
  case atStart => exact ⟨0, 0, Nat.zero_le _, rfl, rfl, rfl, Below.refl _ _⟩
  case round =>
    obtain ⟨j, G, hj, rfl, rfl, HG, hbr⟩ := hrel
    have kC_wr := blk_next kC_w6 hbr
    have gC_wr := gC_w6.trans (hbr.mono gC_w6.size)
    clear kC_w6 gC_w6
    have kR_wr := blk_next kR_w6 hbr
    have gR_wr := gR_w6.trans (hbr.mono gR_w6.size)
    clear kR_w6 gR_w6
    have kW_wr := blk_next kW_w6 hbr
    have gW_wr := gW_w6.trans (hbr.mono gW_w6.size)
    clear kW_w6 gW_w6
    have hGb := HALL.out j (by rw [HN.out]; omega)
    rw [← HG.out] at hGb
    by_cases hlt : j < n
    · obtain ⟨hj3, ad, rfl, hab, hcs, hsb⟩ := (SC.below gC_wr).at_ (k := j) hlt
      have HS := Lib.hid (foldSum_step hj3)
      have hfb := foldsOf_bd ss[j] hsb
      have hwg := w64 (x := G + foldsOf ss[j]) (by omega)
      have hcf := s_CountFolds ss[j] wr hsb
      generalize foldsOf ss[j] = FJ at *
      have HCF := hide hcf
      clear hcf hGb hfb
      obtain ⟨hC0, hC1, hC2, hCl⟩ := blk3 kC_wr
      go_wp2_with fail
      refine HCF.out.mono ?_
      rintro e w8 ⟨rfl, hb8⟩
      go_wp2
      go_roundw
      case rel => exact ⟨j + 1, _, by omega, by go_num, rfl, by unfold Hid; rw [HS.out, HG.out], hbr.trans (hb8.mono hbr.size)⟩
      case measure => simp [intOf]; omega
    · have hjn : n = j := by omega
      subst hjn
      have hG : G = G0 := HG.out.trans HG0.out
      subst hG
      clear hGb hlt hj
      have hKr := (hK.below (hb1.trans (gC_wr.mono hs1)))
      have hwr0 : w.heap.size ≤ wr.heap.size := Nat.le_trans hs1 gC_wr.size
      obtain ⟨hC0, hC1, hC2, hCl⟩ := blk3 kC_wr
      have hT2 := HT.out
      have htT : IntKind.i64.wrap (1 + Int.tmod X1 ((d : Int) + f)) = T := by rw [Int.tmod_eq_emod_of_nonneg hx1.1, hwT]; exact hT2
      go_wp2
      go_cut [10] (fun s10 wx => ∃ g : Nat, s10 = .pointer (some ⟨g, 0, none⟩) ∧ wx.heap[g]? = some (.cells #[.int .i64 0, .int .i64 0, .int .i64 T] 35 (0, 0)) ∧ wr.heap.size ≤ g ∧ Below wr.heap.size wr wx)
      case first =>
        go_region_held3 (fun W => (∀ b o, b < wr.heap.size → W.cell? ⟨b, o, none⟩ = (wr).cell? ⟨b, o, none⟩) ∧ (∀ b o, b < wr.heap.size → W.frozen? ⟨b, o, none⟩ = (wr).frozen? ⟨b, o, none⟩) ∧ Below (wr.heap.size) (wr) W) (exact keep_of bel) ((go_at_call 14; have hq := (‹_ ∧ _ ∧ Below _ _ _›).2.2; refine (HA1.out _ ?_).mono ?_; exact hKr.below (hq.mono hwr0); rintro e w' ⟨rfl, rfl⟩))
        all_goals (go_wp2_with fail)
        all_goals (go_meet)
        all_goals (try rw [htT])
        all_goals (try rw [hT2])
        all_goals (refine ⟨_, rfl, ?_, ?_, ?_⟩; (repeat (first | (with_reducible exact blk_new_at _ _ (by first | rfl | (simp; done))) | (with_reducible refine blk_drew ?_))); (first | exact Nat.le_refl _ | (simp; done)); (exact bel))
      obtain ⟨g9, rfl, kB_c, hg9, hb_c⟩ := hcut
      obtain ⟨w90, hwc⟩ : ∃ Q9 : World, Q9 = wc := ⟨_, rfl⟩
      subst hwc
      have kB_w90 := kB_c
      have gB_w90 : Below w90.heap.size w90 w90 := Below.refl _ _
      clear kB_c hT2 htT
      clear hC0 hC1 hC2 hCl
      have kC_w90 := blk_next kC_wr hb_c
      have gC_w90 := gC_wr.trans (hb_c.mono gC_wr.size)
      clear kC_wr gC_wr
      have kR_w90 := blk_next kR_wr hb_c
      have gR_w90 := gR_wr.trans (hb_c.mono gR_wr.size)
      clear kR_wr gR_wr
      have kW_w90 := blk_next kW_wr hb_c
      have gW_w90 := gW_wr.trans (hb_c.mono gW_wr.size)
      clear kW_wr gW_wr
      have kAdd := fun (W : World) (h : Strs W w1.heap.size A' n ss) (hz : w1.heap.size ≤ W.heap.size) => s_AddBox d f w1.heap.size A' n c' ss 0 0 T W h hz
      have kExtra := fun (W : World) (h : Strs W w1.heap.size A' n ss) (hz : w1.heap.size ≤ W.heap.size) => i_ExtraCost d f 0 0 T S C F P w1.heap.size A' n c' ss W h hz
      have hE : extraOf d f ss 0 0 T S C F P = (if (boxRes 100 d f ss 0 0 T).2 = true then costOf d f (boxRes 100 d f ss 0 0 T).1 S C F P - V else 0) := by unfold extraOf; rw [HR1.out, HVd.out, Bool.and_true]
      have hxc := addbox_card (T := T) HC.out
      have hxz := (boxRes_ok 100 d f ss 0 0 T 16 (by rw [HN.out]; omega) HSZ.out)
      obtain ⟨xs, hx⟩ : ∃ xs, (boxRes 100 d f ss 0 0 T).1 = xs := ⟨_, rfl⟩
      obtain ⟨ok, hok⟩ : ∃ b, (boxRes 100 d f ss 0 0 T).2 = b := ⟨_, rfl⟩
      rw [hx, hok] at hE
      rw [hx] at hxc hxz
      have hV2 := cost_small hxc HR1.out (by omega) (by omega) (by omega)
      obtain ⟨nx, hnx⟩ : ∃ k, xs.length = k := ⟨_, rfl⟩
      have kAdd2 : ∀ (W : World), Strs W w1.heap.size A' n ss → w1.heap.size ≤ W.heap.size → Calls Try.prog 16 #[.agg #[.int .i64 d, .int .i64 f, .slice A' n c'], .agg #[.int .i64 0, .int .i64 0, .int .i64 T]] W fun e w' => ∃ A2 c2, e = .returned (.tuple #[.agg #[.int .i64 d, .int .i64 f, .slice A2 nx c2], .bool ok]) ∧ Strs w' w'.heap.size A2 nx xs ∧ Below W.heap.size W w' := by
        intro W h hz
        have h2 := kAdd W h hz
        rw [hx, hok] at h2
        refine h2.mono ?_
        rintro e w' ⟨A2, c2, rfl, ho, hb⟩
        rw [hnx] at ho ⊢
        exact ⟨A2, c2, rfl, strs_of_own ho (by omega) hxz.2, hb⟩
      have kXCost := fun (W : World) (B : Nat) (A2 : Option Addr) (c2 : Nat) (h : Strs W B A2 nx xs) (hz : B ≤ W.heap.size) => s_CostOf d f S C F P B A2 nx c2 xs W h hz
      have kXCheap := fun (W : World) (A2 : Option Addr) (c2 : Nat) (h : Strs W W.heap.size A2 nx xs) (h3 : Strs W W.heap.size A' n ss) => i_CheaperCard d f S C F P _ _ W.heap.size A2 A' nx c2 n c' xs ss W h h3 (Nat.le_refl _) rfl rfl hV2.1 (by rw [HVd.out]; exact hV.1)
      rw [HVd.out] at kXCheap
      obtain ⟨V2, hV2d⟩ : ∃ V, costOf d f xs S C F P = V := ⟨_, rfl⟩
      rw [hV2d] at hV2 hE kXCost kXCheap
      have mE := w64 (x := V2 - V) (by omega)
      rw [hE] at kExtra
      have HAdd := hide kAdd2
      have HXCost := hide kXCost
      have HXCheap := hide kXCheap
      have HExtra := hide kExtra
      have hVe := HVe.out
      clear kAdd kAdd2 kXCost kXCheap kExtra hE hxc hxz hx hok hnx hV2d
      cases ok
      · skip
        have kE := HExtra.out
        simp only [Bool.false_eq_true, if_false] at kE
        have HE2 := hide kE
        clear kE
        obtain ⟨hC0, hC1, hC2, hCl⟩ := blk3 kC_w90
        obtain ⟨hB0, hB1, hB2, hBl⟩ := blk3 kB_w90
        go_wp2_with fail
        clear hC0 hC1 hC2 hCl hB0 hB1 hB2 hBl
        refine (HAdd.out w90 (SC.below gC_w90) gC_w90.size).mono ?_
        rintro e w91 ⟨A2, c2, rfl, SX, hb_w91⟩
        have kC_w91 := blk_next kC_w90 hb_w91
        have gC_w91 := gC_w90.trans (hb_w91.mono gC_w90.size)
        clear kC_w90 gC_w90
        have kR_w91 := blk_next kR_w90 hb_w91
        have gR_w91 := gR_w90.trans (hb_w91.mono gR_w90.size)
        clear kR_w90 gR_w90
        have kW_w91 := blk_next kW_w90 hb_w91
        have gW_w91 := gW_w90.trans (hb_w91.mono gW_w90.size)
        clear kW_w90 gW_w90
        have kB_w91 := blk_next kB_w90 hb_w91
        have gB_w91 := gB_w90.trans (hb_w91.mono gB_w90.size)
        clear kB_w90 gB_w90
        obtain ⟨hC0, hC1, hC2, hCl⟩ := blk3 kC_w91
        obtain ⟨hB0, hB1, hB2, hBl⟩ := blk3 kB_w91
        obtain ⟨hR0, hR1, hR2, hR3, hRl⟩ := blk4 kR_w91
        go_wp2_with fail
        clear hC0 hC1 hC2 hCl hB0 hB1 hB2 hBl hR0 hR1 hR2 hR3 hRl
        have kX_w92 := blk_new w91 (.cells #[.int .i64 d, .int .i64 f, .slice A2 nx c2] 26)
        have hb_w92 : Below w91.heap.size w91 (w91.alloc (.cells #[.int .i64 d, .int .i64 f, .slice A2 nx c2] 26)) := bel
        have kC_w92 := blk_next kC_w91 hb_w92
        have gC_w92 := gC_w91.trans (hb_w92.mono gC_w91.size)
        clear kC_w91 gC_w91
        have kR_w92 := blk_next kR_w91 hb_w92
        have gR_w92 := gR_w91.trans (hb_w92.mono gR_w91.size)
        clear kR_w91 gR_w91
        have kW_w92 := blk_next kW_w91 hb_w92
        have gW_w92 := gW_w91.trans (hb_w92.mono gW_w91.size)
        clear kW_w91 gW_w91
        have kB_w92 := blk_next kB_w91 hb_w92
        have gB_w92 := gB_w91.trans (hb_w92.mono gB_w91.size)
        clear kB_w91 gB_w91
        have gX_w92 := hb_w92
        generalize (w91.alloc (.cells #[.int .i64 d, .int .i64 f, .slice A2 nx c2] 26)) = w92 at *
        refine (HE2.out w92 (SC.below gC_w92) gC_w92.size).mono ?_
        rintro e w93 ⟨rfl, hb_w93⟩
        have kC_w93 := blk_next kC_w92 hb_w93
        have gC_w93 := gC_w92.trans (hb_w93.mono gC_w92.size)
        clear kC_w92 gC_w92
        have kR_w93 := blk_next kR_w92 hb_w93
        have gR_w93 := gR_w92.trans (hb_w93.mono gR_w92.size)
        clear kR_w92 gR_w92
        have kW_w93 := blk_next kW_w92 hb_w93
        have gW_w93 := gW_w92.trans (hb_w93.mono gW_w92.size)
        clear kW_w92 gW_w92
        have kB_w93 := blk_next kB_w92 hb_w93
        have gB_w93 := gB_w92.trans (hb_w93.mono gB_w92.size)
        clear kB_w92 gB_w92
        have kX_w93 := blk_next kX_w92 hb_w93
        have gX_w93 := gX_w92.trans (hb_w93.mono gX_w92.size)
        clear kX_w92 gX_w92
        go_wp2_with fail
        refine (HA2.out w93 (hK.below (hb1.trans (gC_w93.mono hs1)))).mono ?_
        rintro e w' ⟨rfl, rfl⟩
        go_wp2_with fail
        refine (HA3.out w93 (hK.below (hb1.trans (gC_w93.mono hs1)))).mono ?_
        rintro e w' ⟨rfl, rfl⟩
        go_wp2_with fail
        refine (HOne.out w93).mono ?_
        rintro e w' ⟨rfl, rfl⟩
        go_wp2_with fail
        refine (HMany.out w93).mono ?_
        rintro e w' ⟨rfl, rfl⟩
        obtain ⟨hC0, hC1, hC2, hCl⟩ := blk3 kC_w93
        obtain ⟨hR0, hR1, hR2, hR3, hRl⟩ := blk4 kR_w93
        obtain ⟨hW0, hW1, hW2, hW3, hWl⟩ := blk4 kW_w93
        obtain ⟨hX0, hX1, hX2, hXl⟩ := blk3 kX_w93
        go_wp2_with fail
        have kC0 := cell_regrown hC0
        have kC1 := cell_regrown hC1
        have kC2 := cell_regrown hC2
        have kR0 := cell_regrown hR0
        have kR1 := cell_regrown hR1
        have kR2 := cell_regrown hR2
        have kR3 := cell_regrown hR3
        have kW0 := cell_regrown hW0
        have kW1 := cell_regrown hW1
        have kW2 := cell_regrown hW2
        have kW3 := cell_regrown hW3
        have kX0 := cell_regrown hX0
        have kX1 := cell_regrown hX1
        have kX2 := cell_regrown hX2
        have zw : ∀ d os, Below w1.heap.size w1 (Go.Sort.grow (redrawn w93 d) os) := fun d os => gC_w93.trans ((below_regrown w93 d os).mono gC_w93.size)
        have zC : ∀ d os, Strs (Go.Sort.grow (redrawn w93 d) os) w1.heap.size A' n ss := fun d os => SC.below (zw d os)
        have cTile := fun d os => Calls.regrown_of (HTile.out (Go.Sort.grow (redrawn w93 d) os) (zC d os) (zw d os).size)
        have cCut := fun d os => Calls.regrown_of (HCut.out (Go.Sort.grow (redrawn w93 d) os) (zC d os) (zw d os).size)
        have cCostP := fun d os => Calls.regrown_of (HCostP.out (Go.Sort.grow (redrawn w93 d) os) (zC d os) (zw d os).size)
        have cTwice := fun d os => Calls.regrown_of (HTwice.out (Go.Sort.grow (redrawn w93 d) os) (zC d os) (zw d os).size)
        have cEq := fun d os => Calls.regrown_of (HEq.out (Go.Sort.grow (redrawn w93 d) os) (zC d os) (zw d os).size)
        have cRok := fun d os => Calls.regrown_of (HRok.out (Go.Sort.grow (redrawn w93 d) os))
        have cP0 := fun d os => (HP0.out (Go.Sort.grow (redrawn w93 d) os)).mono fun _ _ h => (⟨h.1, ⟨d, os⟩, h.2.symm⟩ : _ ∧ ∃ p : Regrown, _ = Go.Sort.grow (redrawn w93 p.d) p.os)
        clear hC0 hC1 hC2 hCl hR0 hR1 hR2 hR3 hRl hW0 hW1 hW2 hW3 hWl hX0 hX1 hX2 hXl
        clear HTile HCut HCostP HTwice HEq HRok HP0 zC
        refine wp_region_quiet_below (by kernel_rfl) (lexB_of (by kernel_rfl)) ?_
        dsimp only [List.append]
        repeat (go_big_quiet_step (first | (go_at_call 19; exact cTile _ _) | (go_at_call 20; exact cCut _ _) | (go_at_call_of 13 (Value.agg #[.int .i64 S, .int .i64 C, .int .i64 F, .int .i64 P]); exact cCostP _ _) | (go_at_call_has 13 (Value.agg #[.int .i64 (2 * S), .int .i64 (2 * C), .int .i64 (2 * F), .int .i64 (2 * P)]); exact cTwice _ _) | (go_at_call 24; exact cRok _ _) | (go_at_call 18; exact cP0 _ _) | (go_at_call 22; exact cEq _ _)))
        refine wpQuiet_nil ?_
        intro _ hw'
        obtain ⟨⟨dq, osq⟩, hw''⟩ := hw'
        subst hw''
        go_wp2
        go_ret
        exact ⟨rfl, hb1.trans ((zw dq osq).mono hs1)⟩
      · skip
        obtain ⟨E, hEe⟩ : ∃ E, V2 - V = E := ⟨_, rfl⟩
        have HE := Lib.hid hEe
        have kE := HExtra.out
        simp only [if_true] at kE
        rw [hEe] at kE mE
        obtain ⟨r1, hr1⟩ : ∃ x : Int, (if 0 < E then (1 : Int) else 0) = x := ⟨_, rfl⟩
        obtain ⟨r2, hr2⟩ : ∃ x : Int, (if E < 0 then (1 : Int) else 0) = x := ⟨_, rfl⟩
        have hr12 : cheapRes V2 V = r1 - r2 := by
          rw [← hr1, ← hr2]
          unfold cheapRes
          by_cases h1 : V2 < V
          · rw [if_pos h1, if_neg (by omega), if_pos (by omega)]; rfl
          · rw [if_neg h1]
            by_cases h2 : V < V2
            · rw [if_pos h2, if_pos (by omega), if_neg (by omega)]; rfl
            · rw [if_neg h2, if_neg (by omega), if_neg (by omega)]; rfl
        have hrb : -1 ≤ r1 - r2 ∧ r1 - r2 ≤ 1 := by
          rw [← hr1, ← hr2]; split <;> split <;> omega
        have mR := w64 (x := r1 - r2) (by omega)
        have kB1 : ∀ W : World, Calls Try.prog 23 #[.bool (decide (0 < E))] W fun e w' => e = .returned (.int .i64 r1) ∧ W = w' := fun W => by
          have h := l_btoi (decide (0 < E)) W
          simp only [decide_eq_true_eq] at h
          rw [hr1] at h
          exact h
        have kB2 : ∀ W : World, Calls Try.prog 23 #[.bool (decide (E < 0))] W fun e w' => e = .returned (.int .i64 r2) ∧ W = w' := fun W => by
          have h := l_btoi (decide (E < 0)) W
          simp only [decide_eq_true_eq] at h
          rw [hr2] at h
          exact h
        have kXC := HXCheap.out
        rw [hr12] at kXC
        have HXC := hide kXC
        have HB1 := hide kB1
        have HB2 := hide kB2
        have HE2 := hide kE
        clear kXC kB1 kB2 kE hr1 hr2 hr12 hrb
        obtain ⟨hC0, hC1, hC2, hCl⟩ := blk3 kC_w90
        obtain ⟨hB0, hB1, hB2, hBl⟩ := blk3 kB_w90
        go_wp2_with fail
        clear hC0 hC1 hC2 hCl hB0 hB1 hB2 hBl
        refine (HAdd.out w90 (SC.below gC_w90) gC_w90.size).mono ?_
        rintro e w91 ⟨A2, c2, rfl, SX, hb_w91⟩
        have kC_w91 := blk_next kC_w90 hb_w91
        have gC_w91 := gC_w90.trans (hb_w91.mono gC_w90.size)
        clear kC_w90 gC_w90
        have kR_w91 := blk_next kR_w90 hb_w91
        have gR_w91 := gR_w90.trans (hb_w91.mono gR_w90.size)
        clear kR_w90 gR_w90
        have kW_w91 := blk_next kW_w90 hb_w91
        have gW_w91 := gW_w90.trans (hb_w91.mono gW_w90.size)
        clear kW_w90 gW_w90
        have kB_w91 := blk_next kB_w90 hb_w91
        have gB_w91 := gB_w90.trans (hb_w91.mono gB_w90.size)
        clear kB_w90 gB_w90
        obtain ⟨hC0, hC1, hC2, hCl⟩ := blk3 kC_w91
        obtain ⟨hB0, hB1, hB2, hBl⟩ := blk3 kB_w91
        obtain ⟨hR0, hR1, hR2, hR3, hRl⟩ := blk4 kR_w91
        go_wp2_with fail
        clear hC0 hC1 hC2 hCl hB0 hB1 hB2 hBl hR0 hR1 hR2 hR3 hRl
        have kX_w92 := blk_new w91 (.cells #[.int .i64 d, .int .i64 f, .slice A2 nx c2] 26)
        have hb_w92 : Below w91.heap.size w91 (w91.alloc (.cells #[.int .i64 d, .int .i64 f, .slice A2 nx c2] 26)) := bel
        have kC_w92 := blk_next kC_w91 hb_w92
        have gC_w92 := gC_w91.trans (hb_w92.mono gC_w91.size)
        clear kC_w91 gC_w91
        have kR_w92 := blk_next kR_w91 hb_w92
        have gR_w92 := gR_w91.trans (hb_w92.mono gR_w91.size)
        clear kR_w91 gR_w91
        have kW_w92 := blk_next kW_w91 hb_w92
        have gW_w92 := gW_w91.trans (hb_w92.mono gW_w91.size)
        clear kW_w91 gW_w91
        have kB_w92 := blk_next kB_w91 hb_w92
        have gB_w92 := gB_w91.trans (hb_w92.mono gB_w91.size)
        clear kB_w91 gB_w91
        have gX_w92 := hb_w92
        generalize (w91.alloc (.cells #[.int .i64 d, .int .i64 f, .slice A2 nx c2] 26)) = w92 at *
        refine (HE2.out w92 (SC.below gC_w92) gC_w92.size).mono ?_
        rintro e w93 ⟨rfl, hb_w93⟩
        have kC_w93 := blk_next kC_w92 hb_w93
        have gC_w93 := gC_w92.trans (hb_w93.mono gC_w92.size)
        clear kC_w92 gC_w92
        have kR_w93 := blk_next kR_w92 hb_w93
        have gR_w93 := gR_w92.trans (hb_w93.mono gR_w92.size)
        clear kR_w92 gR_w92
        have kW_w93 := blk_next kW_w92 hb_w93
        have gW_w93 := gW_w92.trans (hb_w93.mono gW_w92.size)
        clear kW_w92 gW_w92
        have kB_w93 := blk_next kB_w92 hb_w93
        have gB_w93 := gB_w92.trans (hb_w93.mono gB_w92.size)
        clear kB_w92 gB_w92
        have kX_w93 := blk_next kX_w92 hb_w93
        have gX_w93 := gX_w92.trans (hb_w93.mono gX_w92.size)
        clear kX_w92 gX_w92
        go_wp2_with fail
        refine (HA2.out w93 (hK.below (hb1.trans (gC_w93.mono hs1)))).mono ?_
        rintro e w' ⟨rfl, rfl⟩
        go_wp2_with fail
        refine (HA3.out w93 (hK.below (hb1.trans (gC_w93.mono hs1)))).mono ?_
        rintro e w' ⟨rfl, rfl⟩
        go_wp2_with fail
        refine (HOne.out w93).mono ?_
        rintro e w' ⟨rfl, rfl⟩
        go_wp2_with fail
        refine (HMany.out w93).mono ?_
        rintro e w' ⟨rfl, rfl⟩
        obtain ⟨hC0, hC1, hC2, hCl⟩ := blk3 kC_w93
        obtain ⟨hR0, hR1, hR2, hR3, hRl⟩ := blk4 kR_w93
        obtain ⟨hW0, hW1, hW2, hW3, hWl⟩ := blk4 kW_w93
        obtain ⟨hX0, hX1, hX2, hXl⟩ := blk3 kX_w93
        go_wp2_with fail
        have kC0 := cell_regrown hC0
        have kC1 := cell_regrown hC1
        have kC2 := cell_regrown hC2
        have kR0 := cell_regrown hR0
        have kR1 := cell_regrown hR1
        have kR2 := cell_regrown hR2
        have kR3 := cell_regrown hR3
        have kW0 := cell_regrown hW0
        have kW1 := cell_regrown hW1
        have kW2 := cell_regrown hW2
        have kW3 := cell_regrown hW3
        have kX0 := cell_regrown hX0
        have kX1 := cell_regrown hX1
        have kX2 := cell_regrown hX2
        have zw : ∀ d os, Below w1.heap.size w1 (Go.Sort.grow (redrawn w93 d) os) := fun d os => gC_w93.trans ((below_regrown w93 d os).mono gC_w93.size)
        have zC : ∀ d os, Strs (Go.Sort.grow (redrawn w93 d) os) w1.heap.size A' n ss := fun d os => SC.below (zw d os)
        have cTile := fun d os => Calls.regrown_of (HTile.out (Go.Sort.grow (redrawn w93 d) os) (zC d os) (zw d os).size)
        have cCut := fun d os => Calls.regrown_of (HCut.out (Go.Sort.grow (redrawn w93 d) os) (zC d os) (zw d os).size)
        have cCostP := fun d os => Calls.regrown_of (HCostP.out (Go.Sort.grow (redrawn w93 d) os) (zC d os) (zw d os).size)
        have cTwice := fun d os => Calls.regrown_of (HTwice.out (Go.Sort.grow (redrawn w93 d) os) (zC d os) (zw d os).size)
        have cEq := fun d os => Calls.regrown_of (HEq.out (Go.Sort.grow (redrawn w93 d) os) (zC d os) (zw d os).size)
        have cRok := fun d os => Calls.regrown_of (HRok.out (Go.Sort.grow (redrawn w93 d) os))
        have cP0 := fun d os => (HP0.out (Go.Sort.grow (redrawn w93 d) os)).mono fun _ _ h => (⟨h.1, ⟨d, os⟩, h.2.symm⟩ : _ ∧ ∃ p : Regrown, _ = Go.Sort.grow (redrawn w93 p.d) p.os)
        have zx : ∀ d os, Below w91.heap.size w91 (Go.Sort.grow (redrawn w93 d) os) := fun d os => gX_w93.trans ((below_regrown w93 d os).mono gX_w93.size)
        have zX : ∀ d os, Strs (Go.Sort.grow (redrawn w93 d) os) w91.heap.size A2 nx xs := fun d os => SX.below (zx d os)
        have cXCost := fun d os => Calls.regrown_of (HXCost.out (Go.Sort.grow (redrawn w93 d) os) w91.heap.size A2 c2 (zX d os) (zx d os).size)
        have cXC := fun d os => Calls.regrown_of (HXC.out (Go.Sort.grow (redrawn w93 d) os) A2 c2 ((zX d os).more (zx d os).size) ((zC d os).more (zw d os).size))
        have cB1 := fun d os => (HB1.out (Go.Sort.grow (redrawn w93 d) os)).mono fun _ _ h => (⟨h.1, ⟨d, os⟩, h.2.symm⟩ : _ ∧ ∃ p : Regrown, _ = Go.Sort.grow (redrawn w93 p.d) p.os)
        have cB2 := fun d os => (HB2.out (Go.Sort.grow (redrawn w93 d) os)).mono fun _ _ h => (⟨h.1, ⟨d, os⟩, h.2.symm⟩ : _ ∧ ∃ p : Regrown, _ = Go.Sort.grow (redrawn w93 p.d) p.os)
        have hEe2 := HE.out
        clear hC0 hC1 hC2 hCl hR0 hR1 hR2 hR3 hRl hW0 hW1 hW2 hW3 hWl hX0 hX1 hX2 hXl
        clear HTile HCut HCostP HTwice HEq HRok HP0 zC
        refine wp_region_quiet_below (by kernel_rfl) (lexB_of (by kernel_rfl)) ?_
        dsimp only [List.append]
        repeat (go_big_quiet_step (first | (go_at_call 19; exact cTile _ _) | (go_at_call 20; exact cCut _ _) | (go_at_call_of 13 (Value.agg #[.int .i64 S, .int .i64 C, .int .i64 F, .int .i64 P]); exact cCostP _ _) | (go_at_call_has 13 (Value.agg #[.int .i64 (2 * S), .int .i64 (2 * C), .int .i64 (2 * F), .int .i64 (2 * P)]); exact cTwice _ _) | (go_at_call 24; exact cRok _ _) | (go_at_call 18; exact cP0 _ _) | (go_at_call 21; exact cXCost _ _) | (go_at_call_of 22 (Value.agg #[.int .i64 d, .int .i64 f, .slice A2 nx c2]); exact cXC _ _) | (go_at_call 22; exact cEq _ _) | (go_at_call_has 23 (Value.bool (decide (0 < E))); exact cB1 _ _) | (go_at_call_has 23 (Value.bool (decide (E < 0))); exact cB2 _ _)))
        refine wpQuiet_nil ?_
        intro _ hw'
        obtain ⟨⟨dq, osq⟩, hw''⟩ := hw'
        subst hw''
        go_wp2
        go_ret
        exact ⟨rfl, hb1.trans ((zw dq osq).mono hs1)⟩
end Go.Proofs.Yteffbjddgdjkmaa.fnPrices
