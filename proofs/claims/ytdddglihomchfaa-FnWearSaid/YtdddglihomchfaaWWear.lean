/- FnWear: the walk. -/
import Derived.Test.YtdddglihomchfaaWearP
import Derived.Test.YtdddglihomchfaaLawDraw
import Derived.Test.YtdddglihomchfaaLawKit2
namespace Go.Proofs.Ytdddglihomchfaa.fnWear
open Go.ChangeShapes Go.WideShapes Go.ChangeAt Go.RowKit
set_option linter.unusedVariables false
set_option linter.unusedSimpArgs false
set_option maxRecDepth 10000

set_option maxHeartbeats 400000 in
theorem l_btoi (b : Bool) (w : World) : Calls Try.prog 30 #[.bool b] w fun e w' => e = .returned (.int .i64 (if b = true then 1 else 0)) ∧ w = w' := by
  cases b
  · go_enter Try.func30, Try.ntmps30
    go_wp2
    go_ret
    exact ⟨rfl, rfl⟩
  · go_enter Try.func30, Try.ntmps30
    go_wp2
    go_ret
    exact ⟨rfl, rfl⟩
set_option maxHeartbeats 6400000 in
theorem walkWear (A : Option Addr) (c : Nat) (bs : List Int) (w : World) (hK : Code w w.heap.size A bs) :
    Calls Try.prog 5 #[.slice A bs.length c] w fun e w' => e = .returned (.bool true) ∧ Below w.heap.size w w' := by
  have hnb := hK.nb
  have hd : decide (1048576 < bs.length) = false := by simp; omega
  go_enter Try.func5, Try.ntmps5
  go_wp2_with (go_at_call 22; refine (l_big _ _ _ _ (by omega)).mono ?_; rw [hd]; rintro e w' ⟨rfl, rfl⟩)
  refine (s_DrawCopy w.heap.size A c bs w hK (Nat.le_refl _)).mono ?_
  rintro e w1 ⟨d, f, ss, A', c', K, X, H, O, hbd, hss, hP, hO, rfl, ho1, hb1⟩
  have hc := drawn_copyOk (O := O) hbd hss hP (by omega)
  have hn6 := hbd.2.2.2.2
  have hsz := drew_size hbd hss
  have hS1 : Strs w1 w1.heap.size A' ss.length ss := ho1.rd (by omega) hsz
  obtain ⟨hl0, hl1, hl2, hl3⟩ := wear_life hc
  have hle := leftOf_yes hc
  have hfa := foldsAl_bd K X H
  have hM0 := mostF_bd ss hsz ss.length (Nat.le_refl _)
  have hMall := fun k hk => mostF_le_all (ss := ss) (Nat.le_refl _) k hk
  have hc1 : copyOk d f ss K X H (O + leftOf d f ss K X H O) = true := drawn_copyOk hbd hss hP (by rw [hle]; omega)
  have hc2 : copyOk d f ss K X H (O + 1) = true := drawn_copyOk hbd hss hP (by omega)
  have hle1 := leftOf_yes hc1
  have hle2 := leftOf_yes hc2
  rw [lifeOf_O hc hc1] at hle1
  rw [lifeOf_O hc hc2] at hle2
  have ho_a := openRes_yes (t := leftOf d f ss K X H O) hc (by rw [hle]; simp [inB]; omega)
  have ho_b := openRes_no2 (d := d) (f := f) (ss := ss) (K := K) (W := X) (H := H) (O := O) (t := leftOf d f ss K X H O + 1) (by rw [hle]; simp [inB]; omega)
  have hz1 : leftOf d f ss K X H (O + leftOf d f ss K X H O) = 0 := by rw [hle1, hle]; omega
  have ho_c := openRes_no2 (d := d) (f := f) (ss := ss) (K := K) (W := X) (H := H) (O := O + leftOf d f ss K X H O) (t := 1) (by rw [hz1]; rfl)
  have kLife := fun (W : World) (h : Strs W w1.heap.size A' ss.length ss) (hz : w1.heap.size ≤ W.heap.size) => i_LifeOf d f w1.heap.size A' ss.length c' ss K X H O W h hz
  have kLeft := fun (W : World) (h : Strs W w1.heap.size A' ss.length ss) (hz : w1.heap.size ≤ W.heap.size) => i_LeftOf d f w1.heap.size A' ss.length c' ss K X H O W h hz
  have kWeak := fun (W : World) (h : Strs W w1.heap.size A' ss.length ss) (hz : w1.heap.size ≤ W.heap.size) => i_WeakestStrip d f A' c' ss K X H O W (h.more hz) hc
  have kOpenA := fun (W : World) (h : Strs W w1.heap.size A' ss.length ss) (hz : w1.heap.size ≤ W.heap.size) => i_OpenCopy d f A' c' ss K X H O (leftOf d f ss K X H O) W (h.more hz)
  have kOpenB := fun (W : World) (h : Strs W w1.heap.size A' ss.length ss) (hz : w1.heap.size ≤ W.heap.size) => i_OpenCopy d f A' c' ss K X H O (leftOf d f ss K X H O + 1) W (h.more hz)
  have kOpenC := fun (W : World) (B : Nat) (A2 : Option Addr) (c2 : Nat) (h : Strs W B A2 ss.length ss) (hz : B ≤ W.heap.size) => i_OpenCopy d f A2 c2 ss K X H (O + leftOf d f ss K X H O) 1 W (h.more hz)
  have kLeftC := fun (W : World) (B : Nat) (A2 : Option Addr) (c2 : Nat) (h : Strs W B A2 ss.length ss) (hz : B ≤ W.heap.size) => i_LeftOf d f B A2 ss.length c2 ss K X H (O + leftOf d f ss K X H O) W h hz
  have kOkC := fun (W : World) (B : Nat) (A2 : Option Addr) (c2 : Nat) (h : Strs W B A2 ss.length ss) (hz : B ≤ W.heap.size) => i_CopyOk d f B A2 ss.length c2 ss K X H (O + leftOf d f ss K X H O) W h hz
  have kFirst := fun (W : World) (g : Nat) (h : Strs W w1.heap.size A' ss.length ss) (hz : w1.heap.size ≤ W.heap.size) (hg : W.heap[g]? = some (.cells #[.int .i64 d, .int .i64 f, .slice A' ss.length c', .int .i64 K, .int .i64 X, .int .i64 H, .int .i64 O, .int .i64 d, .int .i64 f, .slice A' ss.length c', .int .i64 K, .int .i64 X, .int .i64 H, .int .i64 (O + 1)] 33 (0, 0))) => i_FirstToFail2 d f w1.heap.size A' c' ss K X H O (O + 1) g W h hz hg hc hc2
  have kFolds := fun (W : World) => s_FoldsAllowed K X H W
  rw [ho_a] at kOpenA
  rw [ho_b] at kOpenB
  rw [ho_c] at kOpenC
  rw [hz1] at kLeftC
  rw [hc1] at kOkC
  rw [hle2, hle] at kFirst
  rw [hle] at kLeft kOpenA kOpenB kOpenC kLeftC kOkC
  clear ho_a ho_b ho_c hz1 hc hc1 hc2 hle hle1 hle2
  obtain ⟨L, hL⟩ : ∃ L, lifeOf d f ss K X H O = L := ⟨_, rfl⟩
  obtain ⟨FA, hFA⟩ : ∃ FA, foldsAl K X H = FA := ⟨_, rfl⟩
  obtain ⟨M, hM⟩ : ∃ M, mostF ss ss.length = M := ⟨_, rfl⟩
  rw [hL] at hl0 hl1 hl2 hl3 kLife kLeft kOpenA kOpenB kOpenC kLeftC kOkC kFirst
  rw [hFA] at hl2 hl3 hfa kFolds
  rw [hM] at hl2 hl3 hM0 hMall kWeak
  clear hL hFA hM
  obtain ⟨E, hE⟩ : ∃ E, max (L - O) 0 = E := ⟨_, rfl⟩
  have hE0 : 0 ≤ E ∧ E ≤ 40000 := by omega
  have hEm : Hid (max 0 (L - O) = E) := by unfold Hid; omega
  have hfr : (if max (L - (O + 1)) 0 < max (L - O) 0 then (1 : Int) else 0) = (if 0 < E then 1 else 0) := by
    by_cases h : 0 < E
    · rw [if_pos h, if_pos (by omega)]
    · rw [if_neg h, if_neg (by omega)]
  rw [hfr] at kFirst
  obtain ⟨r, hr⟩ : ∃ r : Int, (if 0 < E then (1 : Int) else 0) = r := ⟨_, rfl⟩
  have kB : ∀ W : World, Calls Try.prog 30 #[.bool (decide (0 < E))] W fun e w' => e = .returned (.int .i64 r) ∧ W = w' := fun W => by
    have h := l_btoi (decide (0 < E)) W
    simp only [decide_eq_true_eq] at h
    rw [hr] at h
    exact h
  rw [hr] at kFirst
  have HB := hide kB
  clear kB hr
  rw [hE] at kLeft kOpenA kOpenB kOpenC kLeftC kOkC
  clear hE hfr
  have hw1 : IntKind.i64.wrap (L - O) = L - O := by rw [IntKind.wrap_i64]; omega
  have hw2 : IntKind.i64.wrap (E + 1) = E + 1 := by rw [IntKind.wrap_i64]; omega
  have hw3 : IntKind.i64.wrap (O + 1) = O + 1 := by rw [IntKind.wrap_i64]; omega
  have hw4 : IntKind.i64.wrap (O + E) = O + E := by rw [IntKind.wrap_i64]; omega
  have hw5 : IntKind.i64.wrap (L + 1) = L + 1 := by rw [IntKind.wrap_i64]; omega
  obtain ⟨Q, hQ⟩ : ∃ Q, max 1 M = Q := ⟨_, rfl⟩
  have hQ1 : 1 ≤ Q ∧ Q ≤ 16777218 := by omega
  have hQm := Lib.hid hQ
  rw [hQ] at hl2 hl3
  clear hQ
  have hmul0 : 0 ≤ L * Q := Int.mul_nonneg hl0 (by omega)
  have hmul1 : (L + 1) * Q = L * Q + Q := by rw [Int.add_mul, Int.one_mul]
  have hw6 : IntKind.i64.wrap (L * Q) = L * Q := by rw [IntKind.wrap_i64]; omega
  have hw7 : IntKind.i64.wrap ((L + 1) * Q) = (L + 1) * Q := by rw [IntKind.wrap_i64]; omega
  have HLife := hide kLife
  have HLeft := hide kLeft
  have HWeak := hide kWeak
  have HOpenA := hide kOpenA
  have HOpenB := hide kOpenB
  have HOpenC := hide kOpenC
  have HLeftC := hide kLeftC
  have HOkC := hide kOkC
  have HFirst := hide kFirst
  have HFolds := hide kFolds
  have HMall := hide hMall
  have HSZ := hide hsz
  clear kLife kLeft kWeak kOpenA kOpenB kOpenC kLeftC kOkC kFirst kFolds hMall hsz hss hbd hP hmul1 ho1 hl1
  have hs1 := hb1.size
  go_wp2_with fail
  have hk2 := blk_new w1 (.cells #[.int .i64 d, .int .i64 f, .slice A' ss.length c', .int .i64 K, .int .i64 X, .int .i64 H, .int .i64 O] 33)
  have hg2 : Below w1.heap.size w1 (w1.alloc (.cells #[.int .i64 d, .int .i64 f, .slice A' ss.length c', .int .i64 K, .int .i64 X, .int .i64 H, .int .i64 O] 33)) := bel
  have hs2 : w1.heap.size < (w1.alloc (.cells #[.int .i64 d, .int .i64 f, .slice A' ss.length c', .int .i64 K, .int .i64 X, .int .i64 H, .int .i64 O] 33)).heap.size := by simp
  generalize (w1.alloc (.cells #[.int .i64 d, .int .i64 f, .slice A' ss.length c', .int .i64 K, .int .i64 X, .int .i64 H, .int .i64 O] 33)) = w2 at *
  have hS2 := hS1.below hg2
  refine (unhide HLife w2 hS2 (by omega)).mono ?_
  rintro e w3 ⟨rfl, hb3⟩
  have hk3 := blk_next hk2 hb3
  have hg3 : Below w1.heap.size w1 w3 := hg2.trans (hb3.mono hg2.size)
  have hS3 := hS1.below hg3
  have hs3 : w1.heap.size < w3.heap.size := blk_lt hk3
  clear hk2 hg2 hS2 hs2
  obtain ⟨hx0, hx1, hx2, hx3, hx4, hx5, hx6, hxl⟩ := blk7 hk3
  go_wp2_with fail
  clear hx0 hx1 hx2 hx3 hx4 hx5 hx6 hxl
  refine (unhide HLeft w3 hS3 (by omega)).mono ?_
  rintro e w4 ⟨rfl, hb4⟩
  have hk4 := blk_next hk3 hb4
  have hg4 : Below w1.heap.size w1 w4 := hg3.trans (hb4.mono hg3.size)
  have hS4 := hS1.below hg4
  have hs4 : w1.heap.size < w4.heap.size := blk_lt hk4
  clear hk3 hg3 hS3 hs3
  obtain ⟨hx0, hx1, hx2, hx3, hx4, hx5, hx6, hxl⟩ := blk7 hk4
  go_wp2_with fail
  clear hx0 hx1 hx2 hx3 hx4 hx5 hx6 hxl
  refine (unhide HWeak w4 hS4 (by omega)).mono ?_
  rintro e w5 ⟨a, rfl, ha, hfa2, hb5⟩
  have hk5 := blk_next hk4 hb5
  have hg5 : Below w1.heap.size w1 w5 := hg4.trans (hb5.mono hg4.size)
  have hS5 := hS1.below hg5
  have hs5 : w1.heap.size < w5.heap.size := blk_lt hk5
  clear hk4 hg4 hS4 hs4
  obtain ⟨hx0, hx1, hx2, hx3, hx4, hx5, hx6, hxl⟩ := blk7 hk5
  obtain ⟨ha3, ad, rfl, hab, hcs, hsb⟩ := hS5.at_ (k := a) ha
  have hcf := s_CountFolds ss[a] w5 hsb
  have hfo : foldsOf ss[a] = M := by rw [← hfa2, sAt_get ss a ha3]
  rw [hfo] at hcf
  clear hfo hfa2
  have hal : (a : Int) < ss.length := by omega
  have HCF := hide hcf
  clear hcf
  have hmx := hEm.out
  go_wp2_with fail
  clear hx0 hx1 hx2 hx3 hx4 hx5 hx6 hxl
  refine HCF.out.mono ?_
  rintro e w6 ⟨rfl, hb6⟩
  have hk6 := blk_next hk5 hb6
  have hg6 : Below w1.heap.size w1 w6 := hg5.trans (hb6.mono hg5.size)
  have hS6 := hS1.below hg6
  have hs6 : w1.heap.size < w6.heap.size := blk_lt hk6
  clear hk5 hg5 hS5 hs5
  obtain ⟨hx0, hx1, hx2, hx3, hx4, hx5, hx6, hxl⟩ := blk7 hk6
  clear hcs hab hsb hal
  go_wp2
  go_loopw [8] (fun k wr => ∃ j : Nat, j ≤ ss.length ∧ k = .int .i64 j ∧ Below w6.heap.size w6 wr) (fun k _ => ss.length - (intOf k).toNat)
  case atStart => exact ⟨0, Nat.zero_le _, rfl, Below.refl _ _⟩
  case round =>
    obtain ⟨j, hj, rfl, hbr⟩ := hrel
    have hk7 := blk_next hk6 hbr
    have hg7 : Below w1.heap.size w1 wr := hg6.trans (hbr.mono hg6.size)
    have hS7 := hS1.below hg7
    have hs7 : w1.heap.size < wr.heap.size := blk_lt hk7
    have hzr := hbr.size
    clear hx0 hx1 hx2 hx3 hx4 hx5 hx6 hxl
    obtain ⟨hx0, hx1, hx2, hx3, hx4, hx5, hx6, hxl⟩ := blk7 hk7
    by_cases hlt : j < ss.length
    · obtain ⟨hj3, ad2, had, hab, hcs, hsb⟩ := hS7.at_ (k := j) hlt
      injection had with had
      subst had
      have hle := HMall.out j hlt
      rw [sAt_get ss j hj3] at hle
      have hnl : ¬ M < foldsOf ss[j] := by omega
      have hcf := s_CountFolds ss[j] wr hsb
      generalize foldsOf ss[j] = FJ at *
      have HCF := hide hcf
      clear hcf hle
      go_wp2_with fail
      refine HCF.out.mono ?_
      rintro e w8 ⟨rfl, hb8⟩
      go_wp2
      go_roundw
      case rel => exact ⟨j + 1, by omega, by go_num, hbr.trans (hb8.mono hzr)⟩
      case measure => simp [intOf]; omega
    · have hjn : j = ss.length := by omega
      subst hjn
      clear hlt hj
      clear hzr hbr
      go_wp2_with fail
      clear hx0 hx1 hx2 hx3 hx4 hx5 hx6 hxl
      refine (unhide HOpenA wr hS7 (by omega)).mono ?_
      rintro e w8 ⟨Ay, cy, rfl, ho8, hb8⟩
      have hT8 : Strs w8 w8.heap.size Ay ss.length ss := ho8.rd (by omega) HSZ.out
      clear ho8
      have hk8 := blk_next hk7 hb8
      have hg8 : Below w1.heap.size w1 w8 := hg7.trans (hb8.mono hg7.size)
      have hS8 := hS1.below hg8
      have hs8 : w1.heap.size < w8.heap.size := blk_lt hk8
      clear hk7 hg7 hS7 hs7
      obtain ⟨hx0, hx1, hx2, hx3, hx4, hx5, hx6, hxl⟩ := blk7 hk8
      go_wp2_with fail
      clear hx0 hx1 hx2 hx3 hx4 hx5 hx6 hxl
      have hy9 := blk_new w8 (.cells #[.int .i64 d, .int .i64 f, .slice Ay ss.length cy, .int .i64 K, .int .i64 X, .int .i64 H, .int .i64 (O + E)] 33)
      have hv9 : Below w8.heap.size w8 (w8.alloc (.cells #[.int .i64 d, .int .i64 f, .slice Ay ss.length cy, .int .i64 K, .int .i64 X, .int .i64 H, .int .i64 (O + E)] 33)) := bel
      have hk9 := blk_alloc hk8 (.cells #[.int .i64 d, .int .i64 f, .slice Ay ss.length cy, .int .i64 K, .int .i64 X, .int .i64 H, .int .i64 (O + E)] 33)
      have hg9 : Below w1.heap.size w1 (w8.alloc (.cells #[.int .i64 d, .int .i64 f, .slice Ay ss.length cy, .int .i64 K, .int .i64 X, .int .i64 H, .int .i64 (O + E)] 33)) := hg8.trans (hv9.mono hg8.size)
      generalize (w8.alloc (.cells #[.int .i64 d, .int .i64 f, .slice Ay ss.length cy, .int .i64 K, .int .i64 X, .int .i64 H, .int .i64 (O + E)] 33)) = w9 at *
      have hT9 := hT8.below hv9
      have hS9 := hS1.below hg9
      have hs9 : w1.heap.size < w9.heap.size := blk_lt hk9
      have ht9 : w8.heap.size < w9.heap.size := blk_lt hy9
      clear hk8 hg8 hS8 hs8
      refine (unhide HOpenB w9 hS9 (by omega)).mono ?_
      rintro e w10 ⟨A3, c3, rfl, _, hb10⟩
      have hk10 := blk_next hk9 hb10
      have hg10 : Below w1.heap.size w1 w10 := hg9.trans (hb10.mono hg9.size)
      have hS10 := hS1.below hg10
      have hs10 : w1.heap.size < w10.heap.size := blk_lt hk10
      have hy10 := blk_next hy9 hb10
      have hv10 : Below w8.heap.size w8 w10 := hv9.trans (hb10.mono hv9.size)
      have hT10 := hT8.below hv10
      have ht10 : w8.heap.size < w10.heap.size := blk_lt hy10
      clear hk9 hg9 hS9 hs9 hy9 hv9 hT9 ht9
      obtain ⟨hx0, hx1, hx2, hx3, hx4, hx5, hx6, hxl⟩ := blk7 hk10
      obtain ⟨hq0, hq1, hq2, hq3, hq4, hq5, hq6, hql⟩ := blk7 hy10
      go_wp2_with fail
      clear hx0 hx1 hx2 hx3 hx4 hx5 hx6 hxl
      clear hq0 hq1 hq2 hq3 hq4 hq5 hq6 hql
      have hb11 : Below w10.heap.size w10 (w10.alloc (.cells #[.int .i64 d, .int .i64 f, .slice A3 ss.length c3, .int .i64 K, .int .i64 X, .int .i64 H, .int .i64 O] 33)) := bel
      generalize (w10.alloc (.cells #[.int .i64 d, .int .i64 f, .slice A3 ss.length c3, .int .i64 K, .int .i64 X, .int .i64 H, .int .i64 O] 33)) = w11 at *
      have hk11 := blk_next hk10 hb11
      have hg11 : Below w1.heap.size w1 w11 := hg10.trans (hb11.mono hg10.size)
      have hS11 := hS1.below hg11
      have hs11 : w1.heap.size < w11.heap.size := blk_lt hk11
      have hy11 := blk_next hy10 hb11
      have hv11 : Below w8.heap.size w8 w11 := hv10.trans (hb11.mono hv10.size)
      have hT11 := hT8.below hv11
      have ht11 : w8.heap.size < w11.heap.size := blk_lt hy11
      clear hk10 hg10 hS10 hs10 hy10 hv10 hT10 ht10
      refine (unhide HOpenC w11 w8.heap.size Ay cy hT11 (by omega)).mono ?_
      rintro e w12 ⟨A4, c4, rfl, _, hb12⟩
      have hk12 := blk_next hk11 hb12
      have hg12 : Below w1.heap.size w1 w12 := hg11.trans (hb12.mono hg11.size)
      have hS12 := hS1.below hg12
      have hs12 : w1.heap.size < w12.heap.size := blk_lt hk12
      have hy12 := blk_next hy11 hb12
      have hv12 : Below w8.heap.size w8 w12 := hv11.trans (hb12.mono hv11.size)
      have hT12 := hT8.below hv12
      have ht12 : w8.heap.size < w12.heap.size := blk_lt hy12
      clear hk11 hg11 hS11 hs11 hy11 hv11 hT11 ht11
      obtain ⟨hx0, hx1, hx2, hx3, hx4, hx5, hx6, hxl⟩ := blk7 hk12
      obtain ⟨hq0, hq1, hq2, hq3, hq4, hq5, hq6, hql⟩ := blk7 hy12
      go_wp2_with fail
      clear hx0 hx1 hx2 hx3 hx4 hx5 hx6 hxl
      clear hq0 hq1 hq2 hq3 hq4 hq5 hq6 hql
      have hb13 : Below w12.heap.size w12 (((w12.alloc (.cells #[.int .i64 d, .int .i64 f, .slice A4 ss.length c4, .int .i64 K, .int .i64 X, .int .i64 H, .int .i64 (O + E)] 33)).alloc (.cells #[.int .i64 d, .int .i64 f, .slice (some ad) ss.length c', .int .i64 K, .int .i64 X, .int .i64 H, .int .i64 (O + 1)] 33)).alloc (.cells #[.int .i64 d, .int .i64 f, .slice (some ad) ss.length c', .int .i64 K, .int .i64 X, .int .i64 H, .int .i64 O, .int .i64 d, .int .i64 f, .slice (some ad) ss.length c', .int .i64 K, .int .i64 X, .int .i64 H, .int .i64 (O + 1)] 33)) := bel
      have hz13 : ((((w12.alloc (.cells #[.int .i64 d, .int .i64 f, .slice A4 ss.length c4, .int .i64 K, .int .i64 X, .int .i64 H, .int .i64 (O + E)] 33)).alloc (.cells #[.int .i64 d, .int .i64 f, .slice (some ad) ss.length c', .int .i64 K, .int .i64 X, .int .i64 H, .int .i64 (O + 1)] 33)).alloc (.cells #[.int .i64 d, .int .i64 f, .slice (some ad) ss.length c', .int .i64 K, .int .i64 X, .int .i64 H, .int .i64 O, .int .i64 d, .int .i64 f, .slice (some ad) ss.length c', .int .i64 K, .int .i64 X, .int .i64 H, .int .i64 (O + 1)] 33))).heap[w12.heap.size + 1 + 1]? = some (.cells #[.int .i64 d, .int .i64 f, .slice (some ad) ss.length c', .int .i64 K, .int .i64 X, .int .i64 H, .int .i64 O, .int .i64 d, .int .i64 f, .slice (some ad) ss.length c', .int .i64 K, .int .i64 X, .int .i64 H, .int .i64 (O + 1)] 33 (0, 0)) := blk_new_at _ _ (by simp)
      generalize (((w12.alloc (.cells #[.int .i64 d, .int .i64 f, .slice A4 ss.length c4, .int .i64 K, .int .i64 X, .int .i64 H, .int .i64 (O + E)] 33)).alloc (.cells #[.int .i64 d, .int .i64 f, .slice (some ad) ss.length c', .int .i64 K, .int .i64 X, .int .i64 H, .int .i64 (O + 1)] 33)).alloc (.cells #[.int .i64 d, .int .i64 f, .slice (some ad) ss.length c', .int .i64 K, .int .i64 X, .int .i64 H, .int .i64 O, .int .i64 d, .int .i64 f, .slice (some ad) ss.length c', .int .i64 K, .int .i64 X, .int .i64 H, .int .i64 (O + 1)] 33)) = w13 at *
      have hk13 := blk_next hk12 hb13
      have hg13 : Below w1.heap.size w1 w13 := hg12.trans (hb13.mono hg12.size)
      have hS13 := hS1.below hg13
      have hs13 : w1.heap.size < w13.heap.size := blk_lt hk13
      have hy13 := blk_next hy12 hb13
      have hv13 : Below w8.heap.size w8 w13 := hv12.trans (hb13.mono hv12.size)
      have hT13 := hT8.below hv13
      have ht13 : w8.heap.size < w13.heap.size := blk_lt hy13
      clear hk12 hg12 hS12 hs12 hy12 hv12 hT12 ht12
      refine (unhide HFirst w13 _ hS13 (by omega) hz13).mono ?_
      clear hz13
      rintro e w14 ⟨rfl, hb14⟩
      have hk14 := blk_next hk13 hb14
      have hg14 : Below w1.heap.size w1 w14 := hg13.trans (hb14.mono hg13.size)
      have hS14 := hS1.below hg14
      have hs14 : w1.heap.size < w14.heap.size := blk_lt hk14
      have hy14 := blk_next hy13 hb14
      have hv14 : Below w8.heap.size w8 w14 := hv13.trans (hb14.mono hv13.size)
      have hT14 := hT8.below hv14
      have ht14 : w8.heap.size < w14.heap.size := blk_lt hy14
      clear hk13 hg13 hS13 hs13 hy13 hv13 hT13 ht13
      obtain ⟨hx0, hx1, hx2, hx3, hx4, hx5, hx6, hxl⟩ := blk7 hk14
      obtain ⟨hq0, hq1, hq2, hq3, hq4, hq5, hq6, hql⟩ := blk7 hy14
      have hQe := hQm.out
      go_wp2_with fail
      clear hx0 hx1 hx2 hx3 hx4 hx5 hx6 hxl
      clear hq0 hq1 hq2 hq3 hq4 hq5 hq6 hql
      refine (unhide HLeftC w14 w8.heap.size Ay cy hT14 (by omega)).mono ?_
      rintro e w15 ⟨rfl, hb15⟩
      have hk15 := blk_next hk14 hb15
      have hg15 : Below w1.heap.size w1 w15 := hg14.trans (hb15.mono hg14.size)
      have hS15 := hS1.below hg15
      have hs15 : w1.heap.size < w15.heap.size := blk_lt hk15
      have hy15 := blk_next hy14 hb15
      have hv15 : Below w8.heap.size w8 w15 := hv14.trans (hb15.mono hv14.size)
      have hT15 := hT8.below hv15
      have ht15 : w8.heap.size < w15.heap.size := blk_lt hy15
      clear hk14 hg14 hS14 hs14 hy14 hv14 hT14 ht14
      obtain ⟨hx0, hx1, hx2, hx3, hx4, hx5, hx6, hxl⟩ := blk7 hk15
      obtain ⟨hq0, hq1, hq2, hq3, hq4, hq5, hq6, hql⟩ := blk7 hy15
      go_wp2_with fail
      clear hx0 hx1 hx2 hx3 hx4 hx5 hx6 hxl
      clear hq0 hq1 hq2 hq3 hq4 hq5 hq6 hql
      refine (unhide HFolds w15).mono ?_
      rintro e w16 ⟨rfl, hb16⟩
      have hk16 := blk_next hk15 hb16
      have hg16 : Below w1.heap.size w1 w16 := hg15.trans (hb16.mono hg15.size)
      have hS16 := hS1.below hg16
      have hs16 : w1.heap.size < w16.heap.size := blk_lt hk16
      have hy16 := blk_next hy15 hb16
      have hv16 : Below w8.heap.size w8 w16 := hv15.trans (hb16.mono hv15.size)
      have hT16 := hT8.below hv16
      have ht16 : w8.heap.size < w16.heap.size := blk_lt hy16
      clear hk15 hg15 hS15 hs15 hy15 hv15 hT15 ht15
      obtain ⟨hx0, hx1, hx2, hx3, hx4, hx5, hx6, hxl⟩ := blk7 hk16
      obtain ⟨hq0, hq1, hq2, hq3, hq4, hq5, hq6, hql⟩ := blk7 hy16
      go_wp2_with fail
      clear hx0 hx1 hx2 hx3 hx4 hx5 hx6 hxl
      clear hq0 hq1 hq2 hq3 hq4 hq5 hq6 hql
      refine (unhide HFolds w16).mono ?_
      rintro e w17 ⟨rfl, hb17⟩
      have hk17 := blk_next hk16 hb17
      have hg17 : Below w1.heap.size w1 w17 := hg16.trans (hb17.mono hg16.size)
      have hS17 := hS1.below hg17
      have hs17 : w1.heap.size < w17.heap.size := blk_lt hk17
      have hy17 := blk_next hy16 hb17
      have hv17 : Below w8.heap.size w8 w17 := hv16.trans (hb17.mono hv16.size)
      have hT17 := hT8.below hv17
      have ht17 : w8.heap.size < w17.heap.size := blk_lt hy17
      clear hk16 hg16 hS16 hs16 hy16 hv16 hT16 ht16
      obtain ⟨hx0, hx1, hx2, hx3, hx4, hx5, hx6, hxl⟩ := blk7 hk17
      obtain ⟨hq0, hq1, hq2, hq3, hq4, hq5, hq6, hql⟩ := blk7 hy17
      go_wp2_with fail
      clear hx0 hx1 hx2 hx3 hx4 hx5 hx6 hxl
      clear hq0 hq1 hq2 hq3 hq4 hq5 hq6 hql
      refine (unhide HB w17).mono ?_
      rintro e w18 ⟨rfl, rfl⟩
      obtain ⟨hx0, hx1, hx2, hx3, hx4, hx5, hx6, hxl⟩ := blk7 hk17
      obtain ⟨hq0, hq1, hq2, hq3, hq4, hq5, hq6, hql⟩ := blk7 hy17
      go_wp2_with fail
      clear hx0 hx1 hx2 hx3 hx4 hx5 hx6 hxl
      clear hq0 hq1 hq2 hq3 hq4 hq5 hq6 hql
      refine (unhide HOkC w17 w8.heap.size Ay cy hT17 (by omega)).mono ?_
      rintro e w19 ⟨rfl, hb19⟩
      go_wp2
      go_ret
      exact ⟨rfl, hb1.trans ((hg17.trans (hb19.mono hg17.size)).mono hs1)⟩
end Go.Proofs.Ytdddglihomchfaa.fnWear
