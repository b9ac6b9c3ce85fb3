/- The contracts of TileCount, CutLength of both packages. -/
import Derived.Test.YteffbjddgdjkmaaFold3
import Derived.Test.YteffbjddgdjkmaaFrame
import Derived.Deep.RegionHeld3
import Derived.Deep.QuietTactic
import Derived.BigQuiet
import Derived.Deep.DeepCutAuto
namespace Go.Proofs.Yteffbjddgdjkmaa
open Go.ChangeShapes Go.WideShapes Go.ChangeAt Go.RowKit
set_option linter.unusedVariables false
set_option linter.unusedSimpArgs false
set_option maxRecDepth 10000

def tilesOf (d f : Int) (ss : List ByteArray) : Int := if cardOk d f ss = true then (ss.length : Int) * (d + f) else -1
def sAt (ss : List ByteArray) (k : Nat) : ByteArray := ss.getD k ⟨#[]⟩
theorem sAt_get (ss : List ByteArray) (k : Nat) (h : k < ss.length) : sAt ss k = ss[k] := by unfold sAt; rw [List.getD_eq_getElem?_getD, List.getElem?_eq_getElem h]; rfl
def cutSum (ss : List ByteArray) : Nat → Nat
  | 0 => 0
  | 1 => 0
  | j + 2 => cutSum ss (j + 1) + cutL (sAt ss j) (sAt ss (j + 1))
theorem cutSum_step {ss : List ByteArray} {K j : Nat} (hj : j = K + 1) (h : j < ss.length) (hK : K < ss.length) : cutSum ss (j + 1) = cutSum ss j + cutL (ss[K]'hK) ss[j] := by
  subst hj
  show cutSum ss (K + 1) + cutL (sAt ss K) (sAt ss (K + 1)) = _
  rw [sAt_get ss K (by omega), sAt_get ss (K + 1) h]
theorem cutSum_le (ss : List ByteArray) (hs : ∀ x ∈ ss, x.size ≤ 16777216) : ∀ j, j ≤ ss.length → cutSum ss j ≤ j * 16777216
  | 0, _ => Nat.zero_le _
  | 1, _ => Nat.zero_le _
  | j + 2, h => by
    have h1 := cutSum_le ss hs (j + 1) (by omega)
    have h2 := cutL_le (sAt ss j) (sAt ss (j + 1))
    have h3 : (sAt ss j).size ≤ 16777216 := by rw [sAt_get ss j (by omega)]; exact hs _ (List.getElem_mem _)
    show cutSum ss (j + 1) + _ ≤ _
    omega
def cutLen (d f : Int) (ss : List ByteArray) : Int := if cardOk d f ss = true then (cutSum ss ss.length : Int) else -1
theorem cardOk_bd {d f : Int} {ss : List ByteArray} (h : cardOk d f ss = true) : 1 ≤ d ∧ d ≤ 8 ∧ 1 ≤ f ∧ f ≤ 8 ∧ 1 ≤ ss.length ∧ ss.length ≤ 10 := by
  unfold cardOk isStepsB at h
  simp only [Bool.and_eq_true] at h
  have h1 := inB_iff.1 h.1.1
  have h2 := inB_iff.1 h.1.2
  have h3 := inB_iff.1 h.2.1
  omega
set_option maxHeartbeats 800000 in
theorem i_TileCount (d f : Int) (B : Nat) (A : Option Addr) (n c : Nat) (ss : List ByteArray) (w : World) (hS : Strs w B A n ss) (hB : B ≤ w.heap.size) :
    Calls Try.prog 83 #[.agg #[.int .i64 d, .int .i64 f, .slice A n c]] w fun e w' => e = .returned (.int .i64 (tilesOf d f ss)) ∧ Below w.heap.size w w' := by
  have hn := hS.nb
  have hl := hS.len
  have hS2 := hS.alloc hB (.cells #[.int .i64 d, .int .i64 f, .slice A n c] 26)
  have hk := blk_new w (.cells #[.int .i64 d, .int .i64 f, .slice A n c] 26)
  cases hc : cardOk d f ss
  · have HR : Hid (tilesOf d f ss = -1) := by unfold Hid tilesOf; rw [hc]; rfl
    have HC := Lib.hid hc
    clear hc hl
    go_enter Try.func83, Try.ntmps83
    go_wp2_with (go_at_call 80; refine (i_CardOk _ _ _ _ _ ss _ (hS2.more (by simp; omega))).mono ?_; rw [HC.out]; rintro e w1 ⟨rfl, hb1⟩)
    go_ret
    exact ⟨ret_int HR.out.symm, bel⟩
  · obtain ⟨h1, h2, h3, h4, h5, h6⟩ := cardOk_bd hc
    rw [hl] at h5 h6
    have HR : Hid (tilesOf d f ss = (n : Int) * (d + f)) := by unfold Hid tilesOf; rw [hc, hl]; rfl
    have HC := Lib.hid hc
    have hx1 : -1 ≤ (n : Int) * (d + f) := by
      have : 0 ≤ (n : Int) * (d + f) := Int.mul_nonneg (by omega) (by omega)
      omega
    have hx2 : (n : Int) * (d + f) ≤ 160 := by
      have e1 : (n : Int) * (d + f) ≤ 10 * 16 := Int.mul_le_mul (by omega) (by omega) (by omega) (by omega)
      omega
    have hw1 : IntKind.i64.wrap (d + f) = d + f := by rw [IntKind.wrap_i64]; omega
    have hw2 : IntKind.i64.wrap ((n : Int) * (d + f)) = (n : Int) * (d + f) := by rw [IntKind.wrap_i64]; omega
    clear hc hl
    go_enter Try.func83, Try.ntmps83
    go_wp2_with (go_at_call 80; refine (i_CardOk _ _ _ _ _ ss _ (hS2.more (by simp; omega))).mono ?_; rw [HC.out]; rintro e w1 ⟨rfl, hb1⟩; obtain ⟨hq0, hq1, hq2, hql⟩ := blk3 (blk_next hk hb1))
    go_ret
    exact ⟨ret_int HR.out.symm, bel⟩
set_option maxHeartbeats 800000 in
theorem s_TileCount (d f : Int) (B : Nat) (A : Option Addr) (n c : Nat) (ss : List ByteArray) (w : World) (hS : Strs w B A n ss) (hB : B ≤ w.heap.size) :
    Calls Try.prog 19 #[.agg #[.int .i64 d, .int .i64 f, .slice A n c]] w fun e w' => e = .returned (.int .i64 (tilesOf d f ss)) ∧ Below w.heap.size w w' := by
  have hn := hS.nb
  have hl := hS.len
  have hS2 := hS.alloc hB (.cells #[.int .i64 d, .int .i64 f, .slice A n c] 26)
  have hk := blk_new w (.cells #[.int .i64 d, .int .i64 f, .slice A n c] 26)
  cases hc : cardOk d f ss
  · have HR : Hid (tilesOf d f ss = -1) := by unfold Hid tilesOf; rw [hc]; rfl
    have HC := Lib.hid hc
    clear hc hl
    go_enter Try.func19, Try.ntmps19
    go_wp2_with (go_at_call 90; refine (s_CardOk _ _ _ _ _ ss _ (hS2.more (by simp; omega))).mono ?_; rw [HC.out]; rintro e w1 ⟨rfl, hb1⟩)
    go_ret
    exact ⟨ret_int HR.out.symm, bel⟩
  · obtain ⟨h1, h2, h3, h4, h5, h6⟩ := cardOk_bd hc
    rw [hl] at h5 h6
    have HR : Hid (tilesOf d f ss = (n : Int) * (d + f)) := by unfold Hid tilesOf; rw [hc, hl]; rfl
    have HC := Lib.hid hc
    have hx1 : -1 ≤ (n : Int) * (d + f) := by
      have : 0 ≤ (n : Int) * (d + f) := Int.mul_nonneg (by omega) (by omega)
      omega
    have hx2 : (n : Int) * (d + f) ≤ 160 := by
      have e1 : (n : Int) * (d + f) ≤ 10 * 16 := Int.mul_le_mul (by omega) (by omega) (by omega) (by omega)
      omega
    have hw1 : IntKind.i64.wrap (d + f) = d + f := by rw [IntKind.wrap_i64]; omega
    have hw2 : IntKind.i64.wrap ((n : Int) * (d + f)) = (n : Int) * (d + f) := by rw [IntKind.wrap_i64]; omega
    clear hc hl
    go_enter Try.func19, Try.ntmps19
    go_wp2_with (go_at_call 90; refine (s_CardOk _ _ _ _ _ ss _ (hS2.more (by simp; omega))).mono ?_; rw [HC.out]; rintro e w1 ⟨rfl, hb1⟩; obtain ⟨hq0, hq1, hq2, hql⟩ := blk3 (blk_next hk hb1))
    go_ret
    exact ⟨ret_int HR.out.symm, bel⟩
set_option maxHeartbeats 1600000 in
theorem i_CutLength (d f : Int) (B : Nat) (A : Option Addr) (n c : Nat) (ss : List ByteArray) (w : World) (hS : Strs w B A n ss) (hB : B ≤ w.heap.size) :
    Calls Try.prog 84 #[.agg #[.int .i64 d, .int .i64 f, .slice A n c]] w fun e w' => e = .returned (.int .i64 (cutLen d f ss)) ∧ Below w.heap.size w w' := by
  have hn := hS.nb
  have hl := hS.len
  have hS2 := hS.alloc hB (.cells #[.int .i64 d, .int .i64 f, .slice A n c] 26)
  have hk := blk_new w (.cells #[.int .i64 d, .int .i64 f, .slice A n c] 26)
  cases hc : cardOk d f ss
  · have HR : Hid (cutLen d f ss = -1) := by unfold Hid cutLen; rw [hc]; rfl
    have HC := Lib.hid hc
    clear hc hl
    go_enter Try.func84, Try.ntmps84
    go_wp2_with (go_at_call 80; refine (i_CardOk _ _ _ _ _ ss _ (hS2.more (by simp; omega))).mono ?_; rw [HC.out]; rintro e w1 ⟨rfl, hb1⟩)
    go_ret
    exact ⟨ret_int HR.out.symm, bel⟩
  · obtain ⟨h1, h2, h3, h4, h5, h6⟩ := cardOk_bd hc
    rw [hl] at h5 h6
    have HR : Hid (cutLen d f ss = (cutSum ss n : Int)) := by unfold Hid cutLen; rw [hc, hl]; rfl
    have HC := Lib.hid hc
    have HL := Lib.hid hl
    clear hc hl
    go_enter Try.func84, Try.ntmps84
    go_wp2_with (go_at_call 80; refine (i_CardOk _ _ _ _ _ ss _ (hS2.more (by simp; omega))).mono ?_; rw [HC.out]; rintro e w1 ⟨rfl, hb1⟩)
    have hk1 := blk_next hk hb1
    have hbw1 : Below w.heap.size w w1 := ((Below.refl _ _).alloc (Nat.le_refl _) _).trans (hb1.mono (by simp))
    go_loopw [3, 4] (fun q i wr => ∃ (j M : Nat), 1 ≤ j ∧ j ≤ n ∧ i = .int .i64 j ∧ q = .int .i64 M ∧ Hid (M = cutSum ss j) ∧ Below w1.heap.size w1 wr) (fun _ i _ => n - (intOf i).toNat)
    case atStart => exact ⟨1, 0, Nat.le_refl _, h5, rfl, rfl, rfl, Below.refl _ _⟩
    case round =>
      obtain ⟨j, M, hj1, hj, rfl, rfl, HM, hb⟩ := hrel
      have hbs := hb.size
      have hkr := blk_next hk1 hb
      have hbwr : Below w.heap.size w wr := hbw1.trans (hb.mono hbw1.size)
      have hzr : w.heap.size < wr.heap.size := blk_lt hkr
      obtain ⟨hx0, hx1, hx2, hxl⟩ := blk3 hkr
      have hM := cutSum_le ss hS.sb j (by rw [HL.out]; omega)
      rw [← HM.out] at hM
      by_cases hlt : j < n
      · obtain ⟨K, hKL⟩ : ∃ K, j = K + 1 := ⟨j - 1, by omega⟩
        have hSr := hS.below (hbwr.mono hB)
        obtain ⟨hk2, ad, rfl, hab, hcw, hsb2⟩ := hSr.at_ (k := j) hlt
        obtain ⟨hk3, ad', hade, hab', hcw', hsb⟩ := hSr.at_ (k := K) (by omega)
        injection hade with hade
        subst hade
        have e1 : ((j : Int) - 1) = (K : Int) := by omega
        have w1' : IntKind.i64.wrap ((j : Int) - 1) = (K : Int) := by rw [e1, IntWalk.i64_in _ (by omega)]
        have hi1 : (j : Int) < (n : Int) := by omega
        have hi2 : (K : Int) < (n : Int) := by omega
        have hi3 : (0 : Int) ≤ (K : Int) := Int.natCast_nonneg _
        have hi4 : (0 : Int) ≤ (j : Int) := Int.natCast_nonneg _
        have hcl := cutL_le (ss[K]'hk3) ss[j]
        have hcs : (ss[K]'hk3).size ≤ 16777216 := hsb
        have HS := Lib.hid (cutSum_step hKL hk2 hk3)
        have hwm : IntKind.i64.wrap ((M : Int) + ((cutL (ss[K]'hk3) ss[j] : Nat) : Int)) = (M : Int) + ((cutL (ss[K]'hk3) ss[j] : Nat) : Int) := by rw [IntKind.wrap_i64]; omega
        have hq1 : (ad.add j).block < wr.heap.size := by rw [block_of_add]; omega
        have hq2 : (ad.add K).block < wr.heap.size := by rw [block_of_add]; omega
        have HKL := Lib.hid hKL
        clear e1 hKL hM hcl hcs
        go_wp2_with fail
        go_region_held3 (fun W => (∀ p : Addr, p.block < wr.heap.size → W.cell? p = (wr).cell? p) ∧ (∀ p : Addr, p.block < wr.heap.size → W.frozen? p = (wr).frozen? p) ∧ Below (wr.heap.size) (wr) W) (exact keep_ofP bel) (first | (go_at_call 146; have hq := (‹_ ∧ _ ∧ Below _ _ _›).2.2; refine (i_CutsBetween _ _ _ hsb hsb2).mono ?_; rintro e w3 ⟨A3, c3, rfl, hb3⟩; have hqs3 := hq.size; have hbs3 := hb3.size; (try simp at hqs3); (try simp at hbs3)))
        all_goals (
          go_wp2
          go_roundw
          case rel => exact ⟨j + 1, M + cutL (ss[K]'hk3) ss[j], by omega, by omega, by go_num, by go_num, by unfold Hid; rw [HS.out, HM.out], hb.trans (Below.mono (by first | exact hb3 | exact (Below.refl _ _).drew.trans hb3 | exact bel) hbs)⟩
          case measure => simp [intOf]; omega)
      · have hjn : j = n := by omega
        have HM2 : Hid (M = cutSum ss n) := by unfold Hid; rw [← hjn]; exact HM.out
        clear hjn
        go_wp2
        go_ret
        exact ⟨ret_int (by rw [HR.out, ← HM2.out]), hbwr⟩
set_option maxHeartbeats 1600000 in
theorem s_CutLength (d f : Int) (B : Nat) (A : Option Addr) (n c : Nat) (ss : List ByteArray) (w : World) (hS : Strs w B A n ss) (hB : B ≤ w.heap.size) :
    Calls Try.prog 20 #[.agg #[.int .i64 d, .int .i64 f, .slice A n c]] w fun e w' => e = .returned (.int .i64 (cutLen d f ss)) ∧ Below w.heap.size w w' := by
  have hn := hS.nb
  have hl := hS.len
  have hS2 := hS.alloc hB (.cells #[.int .i64 d, .int .i64 f, .slice A n c] 26)
  have hk := blk_new w (.cells #[.int .i64 d, .int .i64 f, .slice A n c] 26)
  cases hc : cardOk d f ss
  · have HR : Hid (cutLen d f ss = -1) := by unfold Hid cutLen; rw [hc]; rfl
    have HC := Lib.hid hc
    clear hc hl
    go_enter Try.func20, Try.ntmps20
    go_wp2_with (go_at_call 90; refine (s_CardOk _ _ _ _ _ ss _ (hS2.more (by simp; omega))).mono ?_; rw [HC.out]; rintro e w1 ⟨rfl, hb1⟩)
    go_ret
    exact ⟨ret_int HR.out.symm, bel⟩
  · obtain ⟨h1, h2, h3, h4, h5, h6⟩ := cardOk_bd hc
    rw [hl] at h5 h6
    have HR : Hid (cutLen d f ss = (cutSum ss n : Int)) := by unfold Hid cutLen; rw [hc, hl]; rfl
    have HC := Lib.hid hc
    have HL := Lib.hid hl
    clear hc hl
    go_enter Try.func20, Try.ntmps20
    go_wp2_with (go_at_call 90; refine (s_CardOk _ _ _ _ _ ss _ (hS2.more (by simp; omega))).mono ?_; rw [HC.out]; rintro e w1 ⟨rfl, hb1⟩)
    have hk1 := blk_next hk hb1
    have hbw1 : Below w.heap.size w w1 := ((Below.refl _ _).alloc (Nat.le_refl _) _).trans (hb1.mono (by simp))
    go_loopw [3, 4] (fun q i wr => ∃ (j M : Nat), 1 ≤ j ∧ j ≤ n ∧ i = .int .i64 j ∧ q = .int .i64 M ∧ Hid (M = cutSum ss j) ∧ Below w1.heap.size w1 wr) (fun _ i _ => n - (intOf i).toNat)
    case atStart => exact ⟨1, 0, Nat.le_refl _, h5, rfl, rfl, rfl, Below.refl _ _⟩
    case round =>
      obtain ⟨j, M, hj1, hj, rfl, rfl, HM, hb⟩ := hrel
      have hbs := hb.size
      have hkr := blk_next hk1 hb
      have hbwr : Below w.heap.size w wr := hbw1.trans (hb.mono hbw1.size)
      have hzr : w.heap.size < wr.heap.size := blk_lt hkr
      obtain ⟨hx0, hx1, hx2, hxl⟩ := blk3 hkr
      have hM := cutSum_le ss hS.sb j (by rw [HL.out]; omega)
      rw [← HM.out] at hM
      by_cases hlt : j < n
      · obtain ⟨K, hKL⟩ : ∃ K, j = K + 1 := ⟨j - 1, by omega⟩
        have hSr := hS.below (hbwr.mono hB)
        obtain ⟨hk2, ad, rfl, hab, hcw, hsb2⟩ := hSr.at_ (k := j) hlt
        obtain ⟨hk3, ad', hade, hab', hcw', hsb⟩ := hSr.at_ (k := K) (by omega)
        injection hade with hade
        subst hade
        have e1 : ((j : Int) - 1) = (K : Int) := by omega
        have w1' : IntKind.i64.wrap ((j : Int) - 1) = (K : Int) := by rw [e1, IntWalk.i64_in _ (by omega)]
        have hi1 : (j : Int) < (n : Int) := by omega
        have hi2 : (K : Int) < (n : Int) := by omega
        have hi3 : (0 : Int) ≤ (K : Int) := Int.natCast_nonneg _
        have hi4 : (0 : Int) ≤ (j : Int) := Int.natCast_nonneg _
        have hcl := cutL_le (ss[K]'hk3) ss[j]
        have hcs : (ss[K]'hk3).size ≤ 16777216 := hsb
        have HS := Lib.hid (cutSum_step hKL hk2 hk3)
        have hwm : IntKind.i64.wrap ((M : Int) + ((cutL (ss[K]'hk3) ss[j] : Nat) : Int)) = (M : Int) + ((cutL (ss[K]'hk3) ss[j] : Nat) : Int) := by rw [IntKind.wrap_i64]; omega
        have hq1 : (ad.add j).block < wr.heap.size := by rw [block_of_add]; omega
        have hq2 : (ad.add K).block < wr.heap.size := by rw [block_of_add]; omega
        have HKL := Lib.hid hKL
        clear e1 hKL hM hcl hcs
        go_wp2_with fail
        go_region_held3 (fun W => (∀ p : Addr, p.block < wr.heap.size → W.cell? p = (wr).cell? p) ∧ (∀ p : Addr, p.block < wr.heap.size → W.frozen? p = (wr).frozen? p) ∧ Below (wr.heap.size) (wr) W) (exact keep_ofP bel) (first | (go_at_call 91; have hq := (‹_ ∧ _ ∧ Below _ _ _›).2.2; refine (s_CutsBetween _ _ _ hsb hsb2).mono ?_; rintro e w3 ⟨A3, c3, rfl, hb3⟩; have hqs3 := hq.size; have hbs3 := hb3.size; (try simp at hqs3); (try simp at hbs3)))
        all_goals (
          go_wp2
          go_roundw
          case rel => exact ⟨j + 1, M + cutL (ss[K]'hk3) ss[j], by omega, by omega, by go_num, by go_num, by unfold Hid; rw [HS.out, HM.out], hb.trans (Below.mono (by first | exact hb3 | exact (Below.refl _ _).drew.trans hb3 | exact bel) hbs)⟩
          case measure => simp [intOf]; omega)
      · have hjn : j = n := by omega
        have HM2 : Hid (M = cutSum ss n) := by unfold Hid; rw [← hjn]; exact HM.out
        clear hjn
        go_wp2
        go_ret
        exact ⟨ret_int (by rw [HR.out, ← HM2.out]), hbwr⟩
end Go.Proofs.Yteffbjddgdjkmaa
