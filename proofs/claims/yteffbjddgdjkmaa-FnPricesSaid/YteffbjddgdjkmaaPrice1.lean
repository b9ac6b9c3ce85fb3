/- Rates are drawn; the cost with plates, prices, the cheaper card (the program), for FnPrices. -/
import Derived.Test.YteffbjddgdjkmaaCards1
import Derived.Test.YteffbjddgdjkmaaFold6
namespace Go.Proofs.Yteffbjddgdjkmaa
open Go.ChangeShapes Go.WideShapes Go.ChangeAt Go.RowKit
set_option linter.unusedVariables false
set_option maxRecDepth 10000

def RatesIn (S C F P : Int) : Prop := 0 ≤ S ∧ S < 20 ∧ 0 ≤ C ∧ C < 20 ∧ 0 ≤ F ∧ F < 20 ∧ 0 ≤ P ∧ P < 50
set_option maxHeartbeats 1600000 in
theorem s_l30Rates (g B : Nat) (A : Option Addr) (c : Nat) (bs : List Int) (w : World) (hC : Cur w g B A c bs) :
    Calls Try.prog 79 #[.pointer (some ⟨g, 0, none⟩)] w fun e w' => ∃ S C F P : Int, RatesIn S C F P ∧ e = .returned (.agg #[.int .i64 S, .int .i64 C, .int .i64 F, .int .i64 P]) ∧ Cur w' g B A c bs ∧ w.grownBy w' (some g) := by
  have hgw := hC.lt
  have hlo := hC.lo
  go_enter Try.func79, Try.ntmps79
  go_wp2_with fail
  have hkr0 := blk_new w (.cells #[.int .i64 0, .int .i64 0, .int .i64 0, .int .i64 0] 29)
  have hC0 := hC.alloc (.cells #[.int .i64 0, .int .i64 0, .int .i64 0, .int .i64 0] 29)
  have hg0 : w.grownBy (w.alloc (.cells #[.int .i64 0, .int .i64 0, .int .i64 0, .int .i64 0] 29)) (some g) := grown_then (World.grownBy.refl w _) bel
  generalize w.alloc (.cells #[.int .i64 0, .int .i64 0, .int .i64 0, .int .i64 0] 29) = w0 at *
  refine (s_l01Below 20 g B A c bs w0 hC0 (by omega) (by omega)).mono ?_
  rintro e w1 ⟨x1, rfl, hx1, hx1', hC1, hg1⟩
  have hkr1 := hC0.blk_keep hkr0 (by omega) hg1
  have hgr1 := only_trans hg0 hg1
  go_wp2_with fail
  refine (s_l01Below 20 g B A c bs w1 hC1 (by omega) (by omega)).mono ?_
  rintro e w2 ⟨x2, rfl, hx2, hx2', hC2, hg2⟩
  have hkr2 := hC1.blk_keep hkr1 (by omega) hg2
  have hgr2 := only_trans hgr1 hg2
  go_wp2_with fail
  refine (s_l01Below 20 g B A c bs w2 hC2 (by omega) (by omega)).mono ?_
  rintro e w3 ⟨x3, rfl, hx3, hx3', hC3, hg3⟩
  have hkr3 := hC2.blk_keep hkr2 (by omega) hg3
  have hgr3 := only_trans hgr2 hg3
  go_wp2_with fail
  refine (s_l01Below 50 g B A c bs w3 hC3 (by omega) (by omega)).mono ?_
  rintro e w4 ⟨x4, rfl, hx4, hx4', hC4, hg4⟩
  have hkr4 := hC3.blk_keep hkr3 (by omega) hg4
  have hgr4 := only_trans hgr3 hg4
  clear hC0 hC1 hC2 hC3 hg0 hg1 hg2 hg3 hg4 hkr0 hkr1 hkr2 hkr3 hgr1 hgr2 hgr3
  obtain ⟨hx0, hx1_, hx2_, hx3_, hxl⟩ := blk4 hkr4
  have hf0 := (blk_cells hkr4 0).2
  have hf1 := (blk_cells hkr4 1).2
  have hf2 := (blk_cells hkr4 2).2
  have hf3 := (blk_cells hkr4 3).2
  go_wp2
  refine bodyPost_ret (v := .agg #[.int .i64 x1, .int .i64 x2, .int .i64 x3, .int .i64 x4]) (by simp [results, Try.results79, go_sem, *]) rfl ?_
  refine ⟨x1, x2, x3, x4, ⟨by omega, by omega, by omega, by omega, by omega, by omega, by omega, by omega⟩, rfl, (((hC4.put_other (by simp; omega) (by simp; omega) _).put_other (by simp; omega) (by simp; omega) _).put_other (by simp; omega) (by simp; omega) _).put_other (by simp; omega) (by simp; omega) _, grown_then hgr4 bel⟩
set_option maxHeartbeats 800000 in
theorem s_DrawRates (B : Nat) (A : Option Addr) (c : Nat) (bs : List Int) (w : World) (hK : Code w B A bs) (hB : B ≤ w.heap.size) :
    Calls Try.prog 12 #[.slice A bs.length c] w fun e w' => ∃ S C F P : Int, RatesIn S C F P ∧ e = .returned (.agg #[.int .i64 S, .int .i64 C, .int .i64 F, .int .i64 P]) ∧ Below w.heap.size w w' := by
  go_enter Try.func12, Try.ntmps12
  go_wp2_with fail
  have hkr0 := blk_new w (.cells #[.int .i64 0, .int .i64 0, .int .i64 0, .int .i64 0] 29)
  have hb0 : Below w.heap.size w (w.alloc (.cells #[.int .i64 0, .int .i64 0, .int .i64 0, .int .i64 0] 29)) := bel
  have hs0 : w.heap.size < (w.alloc (.cells #[.int .i64 0, .int .i64 0, .int .i64 0, .int .i64 0] 29)).heap.size := by simp
  generalize w.alloc (.cells #[.int .i64 0, .int .i64 0, .int .i64 0, .int .i64 0] 29) = w0 at *
  refine (s_l01New B A c bs w0 (hK.below (hb0.mono hB)) (by omega)).mono ?_
  rintro e w1 ⟨rfl, hC1, hb1⟩
  have hkr1 := blk_next hkr0 hb1
  have hb1' : Below w.heap.size w w1 := hb0.trans (hb1.mono (by omega))
  have hs1 := hb1.size
  go_wp2_with fail
  refine (s_l30Rates w0.heap.size B A c bs w1 hC1).mono ?_
  rintro e w2 ⟨S, C, F, P, hr, rfl, hC2, hg2⟩
  have hkr2 := hC1.blk_keep hkr1 (by omega) hg2
  have hb2 : Below w.heap.size w w2 := hb1'.trans (grown_below hg2 (fun k hk => by injection hk with hk; omega) (by omega))
  clear hkr0 hkr1 hb0 hb1
  obtain ⟨hx0, hx1, hx2, hx3, hxl⟩ := blk4 hkr2
  have hf0 := (blk_cells hkr2 0).2
  have hf1 := (blk_cells hkr2 1).2
  have hf2 := (blk_cells hkr2 2).2
  have hf3 := (blk_cells hkr2 3).2
  go_wp2
  refine bodyPost_ret (v := .agg #[.int .i64 S, .int .i64 C, .int .i64 F, .int .i64 P]) (by simp [results, Try.results12, go_sem, *]) rfl ?_
  exact ⟨S, C, F, P, hr, rfl, hb2.trans (by repeat (first | (with_reducible exact Below.refl _ _) | (refine Below.setCell ?_ (show w.heap.size ≤ w.heap.size from Nat.le_refl w.heap.size) _)))⟩
theorem ratesOk_P {S C F P : Int} (h : ratesOk S C F P = true) : 0 ≤ P ∧ P ≤ 10000 := by
  unfold ratesOk inB at h
  simp at h
  omega
theorem mulP {P p : Int} (h0 : 0 ≤ P) (h1 : P ≤ 10000) (h2 : 0 ≤ p) (h3 : p ≤ 8) : 0 ≤ P * p ∧ P * p ≤ 80000 := by
  have hp : p = 0 ∨ p = 1 ∨ p = 2 ∨ p = 3 ∨ p = 4 ∨ p = 5 ∨ p = 6 ∨ p = 7 ∨ p = 8 := by omega
  rcases hp with rfl | rfl | rfl | rfl | rfl | rfl | rfl | rfl | rfl <;> omega
set_option maxHeartbeats 3200000 in
theorem i_CostP (p d f S C F P : Int) (hp0 : 0 ≤ p) (hp8 : p ≤ 8) (B : Nat) (A : Option Addr) (n c : Nat) (ss : List ByteArray) (w : World) (hS : Strs w B A n ss) (hB : B ≤ w.heap.size) (hc : cardOk d f ss = true) (hrt : ratesOk S C F P = true) :
    Calls Try.prog 13 #[.agg #[.int .i64 d, .int .i64 f, .slice A n c], .agg #[.int .i64 S, .int .i64 C, .int .i64 F, .int .i64 P], .int .i64 p] w fun e w' => e = .returned (.int .i64 (costOf d f ss S C F P + P * p)) ∧ Below w.heap.size w w' := by
  have hn := hS.nb
  have hl := hS.len
  have h08 : inB p 0 8 = true := by simp [inB]; omega
  have hPb : 0 ≤ P ∧ P ≤ 10000 := ratesOk_P hrt
  have hPp : 0 ≤ P * p ∧ P * p ≤ 80000 := mulP hPb.1 hPb.2 hp0 hp8
  have hS2 := ((hS.alloc hB (.cells #[.int .i64 d, .int .i64 f, .slice A n c] 26)).alloc (by simp; omega) (.cells #[.int .i64 S, .int .i64 C, .int .i64 F, .int .i64 P] 29))
  have hka : ((w.alloc (.cells #[.int .i64 d, .int .i64 f, .slice A n c] 26)).alloc (.cells #[.int .i64 S, .int .i64 C, .int .i64 F, .int .i64 P] 29)).heap[w.heap.size]? = some (.cells #[.int .i64 d, .int .i64 f, .slice A n c] 26 (0, 0)) := blk_alloc (blk_new _ _) _
  have hkb : ((w.alloc (.cells #[.int .i64 d, .int .i64 f, .slice A n c] 26)).alloc (.cells #[.int .i64 S, .int .i64 C, .int .i64 F, .int .i64 P] 29)).heap[w.heap.size + 1]? = some (.cells #[.int .i64 S, .int .i64 C, .int .i64 F, .int .i64 P] 29 (0, 0)) := blk_new_at _ _ (by simp)
  have HR := Lib.hid (costOf_yes hc hrt)
  obtain ⟨q1, q2, q3, q4, q5, q6⟩ := cardOk_bd hc
  obtain ⟨r1, r2, r3, r4, r5, r6⟩ := ratesOk_bd hrt
  have t1 := tiles_bd hc
  have t2 := cutLen_bd hc hS.sb
  have HC := Lib.hid hc
  have HRT := Lib.hid hrt
  have HL := Lib.hid hl
  rw [hl] at q5 q6
  have htc := fun (W : World) (h : Strs W B A n ss) (hb : B ≤ W.heap.size) => i_TileCount d f B A n c ss W h hb
  have hcl := fun (W : World) (h : Strs W B A n ss) (hb : B ≤ W.heap.size) => i_CutLength d f B A n c ss W h hb
  have m1 := mul_bd (N := 160) r1 r2 t1.1 t1.2 (by omega)
  have m2 := mul_bd (N := 167772160) r3 r4 t2.1 t2.2 (by omega)
  generalize hT : tilesOf d f ss = T at *
  generalize hK : cutLen d f ss = K at *
  have HTC := hide htc
  have HCL := hide hcl
  have hw1 : IntKind.i64.wrap (S * T) = S * T := by rw [IntKind.wrap_i64]; omega
  have hw2 : IntKind.i64.wrap (C * K) = C * K := by rw [IntKind.wrap_i64]; omega
  have hw3 : IntKind.i64.wrap (S * T + C * K) = S * T + C * K := by rw [IntKind.wrap_i64]; omega
  clear hc hrt hl htc hcl hT hK t1 t2
  go_enter Try.func13, Try.ntmps13
  go_wp2_with (first | (go_at_call 80; refine (i_CardOk _ _ _ _ _ ss _ (hS2.more (by simp; omega))).mono ?_; rw [HC.out]; rintro e w1 ⟨rfl, hb1⟩; obtain ⟨hcb1, hfb1⟩ := bcell hb1; have hz_w1_0 : w.heap.size < w1.heap.size := (by have hzz := hb1.size; (try simp at hzz); omega); have hy_w1_0 := Nat.le_of_lt hz_w1_0; have hz_w1_1 : w.heap.size + 1 < w1.heap.size := (by have hzz := hb1.size; (try simp at hzz); omega); have hy_w1_1 := Nat.le_of_lt hz_w1_1; (have hbw1 : Below w.heap.size w w1 := bel)) | (go_at_call 24; refine (i_RatesOk S C F P _).mono ?_; rw [HRT.out]; rintro e w2 ⟨rfl, hb2⟩; (have hbw2 : Below w.heap.size w w2 := hbw1.trans (hb2.mono hbw1.size)); (have hk2 := blk_next (blk_next hka hb1) hb2); (have hr2 := blk_next (blk_next hkb hb1) hb2); obtain ⟨hx0, hx1, hx2, hxl⟩ := blk3 hk2; obtain ⟨hy0, hy1, hy2, hy3, hyl⟩ := blk4 hr2) | (go_at_call 81; refine (i_within _ _ _ _).mono ?_; rintro e w' ⟨rfl, rfl⟩))
  go_loopw [7, 26] (fun q i wr => ∃ (j : Nat) (G : Int), j ≤ n ∧ i = .int .i64 j ∧ q = .int .i64 G ∧ Hid (G = foldSum ss j) ∧ Below w2.heap.size w2 wr) (fun _ i _ => n - (intOf i).toNat)
  case atStart => exact ⟨0, 0, Nat.zero_le _, rfl, rfl, rfl, Below.refl _ _⟩
  case round =>
    obtain ⟨j, G, hj, rfl, rfl, HG, hb⟩ := hrel
    have hbs := hb.size
    have hbwr : Below w.heap.size w wr := hbw2.trans (hb.mono hbw2.size)
    have hSr := hS.below (hbwr.mono hB)
    have hzw := hbwr.size
    have hkr := blk_next hk2 hb
    have hrr := blk_next hr2 hb
    obtain ⟨hu0, hu1, hu2, hul⟩ := blk3 hkr
    obtain ⟨hv0, hv1, hv2, hv3, hvl⟩ := blk4 hrr
    have hG := foldSum_bd ss hS.sb j (by rw [HL.out]; omega)
    rw [← HG.out] at hG
    by_cases hlt : j < n
    · obtain ⟨hk3, ad, rfl, hab, hcw, hsb⟩ := hSr.at_ (k := j) hlt
      have HS := Lib.hid (foldSum_step hk3)
      have hfb := foldsOf_bd ss[j] hsb
      have hwg : IntKind.i64.wrap (G + foldsOf ss[j]) = G + foldsOf ss[j] := by rw [IntKind.wrap_i64]; omega
      clear hG hfb
      go_wp2_with (go_at_call 82; refine (i_CountFolds _ _ hsb).mono ?_; rintro e w3 ⟨rfl, hb3⟩)
      go_roundw
      case rel => exact ⟨j + 1, G + foldsOf ss[j], by omega, by go_num, rfl, by unfold Hid; rw [HS.out, HG.out], hb.trans (Below.mono hb3 hbs)⟩
      case measure => simp [intOf]; omega
    · have hjn : j = n := by omega
      have HG2 : Hid (G = foldSum ss ss.length) := by unfold Hid; rw [HL.out, ← hjn]; exact HG.out
      have m3 := mul_bd (N := 167772180) r5 r6 (b := G) (by omega) (by omega) (by omega)
      have hw4 : IntKind.i64.wrap (F * G) = F * G := by rw [IntKind.wrap_i64]; omega
      have hw5 : IntKind.i64.wrap (S * T + C * K + F * G) = S * T + C * K + F * G := by rw [IntKind.wrap_i64]; omega
      have hw6 : IntKind.i64.wrap (P * p) = P * p := by rw [IntKind.wrap_i64]; omega
      have hw7 : IntKind.i64.wrap (S * T + C * K + F * G + P * p) = S * T + C * K + F * G + P * p := by rw [IntKind.wrap_i64]; omega
      clear hG m3 hjn
      go_wp2_with fail
      go_region_held3 (fun W => (∀ b o, b < wr.heap.size → W.cell? ⟨b, o, none⟩ = (wr).cell? ⟨b, o, none⟩) ∧ (∀ b o, b < wr.heap.size → W.frozen? ⟨b, o, none⟩ = (wr).frozen? ⟨b, o, none⟩) ∧ Below (wr.heap.size) (wr) W) (exact keep_of bel) (first | (go_at_call 83; have hq := (‹_ ∧ _ ∧ Below _ _ _›).2.2; refine (unhide HTC _ ?_ ?_).mono ?_; exact hSr.below (hq.mono (by omega)); (first | exact Nat.le_trans (by omega) hq.size | omega); rintro e w4 ⟨rfl, hb4⟩; have hqs4 := hq.size; have hbs4 := hb4.size; (try simp at hqs4); (try simp at hbs4)) | (go_at_call 84; have hq := (‹_ ∧ _ ∧ Below _ _ _›).2.2; refine (unhide HCL _ ?_ ?_).mono ?_; exact hSr.below (hq.mono (by omega)); (first | exact Nat.le_trans (by omega) hq.size | omega); rintro e w5 ⟨rfl, hb5⟩; have hqs5 := hq.size; have hbs5 := hb5.size; (try simp at hqs5); (try simp at hbs5)))
      all_goals (
        go_wp2
        go_ret
        exact ⟨ret_int (by rw [HR.out, ← HG2.out]), hbwr.trans (Below.mono (by first | exact bel) hzw)⟩)
set_option maxHeartbeats 1600000 in
theorem i_PriceFor (n c m : Int) (w : World) (h0 : 0 ≤ n) (h1 : n ≤ 10000000) (h2 : 0 ≤ c) (h3 : c ≤ 10000) (h4 : 0 ≤ m) (h5 : m ≤ 400) :
    Calls Try.prog 18 #[.int .i64 n, .int .i64 c, .int .i64 m] w fun e w' => e = .returned (.int .i64 (if 50 ≤ c then (n * (100 + m) * c + 99) / 100 - (n * (100 + m) * c + 99) / 100 / 10 else (n * (100 + m) * c + 99) / 100)) ∧ w = w' := by
  have i1 : inB n 0 10000000 = true := by simp [inB]; omega
  have i2 : inB c 0 10000 = true := by simp [inB]; omega
  have i3 : inB m 0 400 = true := by simp [inB]; omega
  obtain ⟨X, hX⟩ : ∃ X, n * (100 + m) = X := ⟨_, rfl⟩
  have hX0 : 0 ≤ X ∧ X ≤ 5000000000 := by
    rw [← hX]
    exact ⟨Int.mul_nonneg h0 (by omega), by
      have := Int.mul_le_mul h1 (show 100 + m ≤ 500 by omega) (by omega) (by omega); omega⟩
  obtain ⟨Y, hY⟩ : ∃ Y, X * c = Y := ⟨_, rfl⟩
  have hY0 : 0 ≤ Y ∧ Y ≤ 50000000000000 := by
    rw [← hY]
    exact ⟨Int.mul_nonneg hX0.1 h2, by
      have := Int.mul_le_mul hX0.2 h3 h2 (by omega); omega⟩
  have w1 : IntKind.i64.wrap (100 + m) = 100 + m := by rw [IntKind.wrap_i64]; omega
  have w2 : IntKind.i64.wrap X = X := by rw [IntKind.wrap_i64]; omega
  have w3 : IntKind.i64.wrap Y = Y := by rw [IntKind.wrap_i64]; omega
  have w4 : IntKind.i64.wrap (Y + 99) = Y + 99 := by rw [IntKind.wrap_i64]; omega
  obtain ⟨Z, hZ⟩ : ∃ Z, (Y + 99) / 100 = Z := ⟨_, rfl⟩
  have hZ0 : 0 ≤ Z ∧ Z ≤ 500000000001 := by omega
  have w5 : IntKind.i64.wrap (Z - Z / 10) = Z - Z / 10 := by rw [IntKind.wrap_i64]; omega
  have hZt : Int.tdiv (Y + 99) 100 = Z := by rw [Int.tdiv_eq_ediv_of_nonneg (by omega)]; exact hZ
  have hZt2 : Int.tdiv Z 10 = Z / 10 := Int.tdiv_eq_ediv_of_nonneg (by omega)
  rw [hX, hY, hZ]
  have HX := Lib.hid hX
  by_cases h50 : 50 ≤ c
  · rw [if_pos h50]
    go_enter Try.func18, Try.ntmps18
    go_wp2_with (go_at_call 81; refine (i_within _ _ _ _).mono ?_; rintro e w' ⟨rfl, rfl⟩)
    go_ret
    exact ⟨rfl, rfl⟩
  · rw [if_neg h50]
    go_enter Try.func18, Try.ntmps18
    go_wp2_with (go_at_call 81; refine (i_within _ _ _ _).mono ?_; rintro e w' ⟨rfl, rfl⟩)
    go_ret
    exact ⟨rfl, rfl⟩
end Go.Proofs.Yteffbjddgdjkmaa
