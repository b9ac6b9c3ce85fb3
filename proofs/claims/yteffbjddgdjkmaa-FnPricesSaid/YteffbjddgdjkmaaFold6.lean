/- The contracts of CostOf of both packages. -/
import Derived.Test.YteffbjddgdjkmaaFold5
import Derived.Deep.RegionHeld3
import Derived.Deep.QuietTactic
import Derived.BigQuiet
import Derived.Deep.DeepCutAuto
namespace Go.Proofs.Yteffbjddgdjkmaa
open Go.ChangeShapes Go.WideShapes Go.ChangeAt Go.RowKit
set_option linter.unusedVariables false
set_option linter.unusedSimpArgs false
set_option maxRecDepth 10000

def foldSum (ss : List ByteArray) : Nat → Int
  | 0 => 0
  | j + 1 => foldSum ss j + foldsOf (sAt ss j)
theorem foldSum_step {ss : List ByteArray} {j : Nat} (h : j < ss.length) : foldSum ss (j + 1) = foldSum ss j + foldsOf ss[j] := by
  show foldSum ss j + foldsOf (sAt ss j) = _; rw [sAt_get ss j h]
theorem foldSum_bd (ss : List ByteArray) (hs : ∀ x ∈ ss, x.size ≤ 16777216) : ∀ j : Nat, j ≤ ss.length → -((j : Int) * 16777218) ≤ foldSum ss j ∧ foldSum ss j ≤ (j : Int) * 16777218
  | 0, _ => by show -(((0 : Nat) : Int) * 16777218) ≤ 0 ∧ (0 : Int) ≤ ((0 : Nat) : Int) * 16777218; omega
  | j + 1, h => by
    have h1 := foldSum_bd ss hs j (by omega)
    have h2 := foldsOf_bd (sAt ss j) (by rw [sAt_get ss j (by omega)]; exact hs _ (List.getElem_mem _))
    show -(((j + 1 : Nat) : Int) * 16777218) ≤ foldSum ss j + foldsOf (sAt ss j) ∧ foldSum ss j + foldsOf (sAt ss j) ≤ ((j + 1 : Nat) : Int) * 16777218
    omega
def costOf (d f : Int) (ss : List ByteArray) (S C F P : Int) : Int := if cardOk d f ss && ratesOk S C F P then S * tilesOf d f ss + C * cutLen d f ss + F * foldSum ss ss.length else -1
theorem mul_bd {a b M N : Int} (h0 : 0 ≤ a) (h1 : a ≤ M) (h2 : -N ≤ b) (h3 : b ≤ N) (hN : 0 ≤ N) : -(M * N) ≤ a * b ∧ a * b ≤ M * N := by
  have e1 : a * b ≤ a * N := Int.mul_le_mul_of_nonneg_left h3 h0
  have e2 : a * N ≤ M * N := Int.mul_le_mul_of_nonneg_right h1 hN
  have e3 : a * (-N) ≤ a * b := Int.mul_le_mul_of_nonneg_left h2 h0
  rw [Int.mul_neg] at e3
  omega
theorem tiles_bd {d f : Int} {ss : List ByteArray} (h : cardOk d f ss = true) : -160 ≤ tilesOf d f ss ∧ tilesOf d f ss ≤ 160 := by
  obtain ⟨h1, h2, h3, h4, h5, h6⟩ := cardOk_bd h
  have e : tilesOf d f ss = (ss.length : Int) * (d + f) := by unfold tilesOf; rw [h]; rfl
  have := mul_bd (a := (ss.length : Int)) (b := d + f) (M := 10) (N := 16) (by omega) (by omega) (by omega) (by omega) (by omega)
  omega
theorem cutLen_bd {d f : Int} {ss : List ByteArray} (h : cardOk d f ss = true) (hs : ∀ x ∈ ss, x.size ≤ 16777216) : -167772160 ≤ cutLen d f ss ∧ cutLen d f ss ≤ 167772160 := by
  obtain ⟨h1, h2, h3, h4, h5, h6⟩ := cardOk_bd h
  have e : cutLen d f ss = (cutSum ss ss.length : Int) := by unfold cutLen; rw [h]; rfl
  have := cutSum_le ss hs ss.length (Nat.le_refl _)
  omega
theorem costOf_no1 {d f : Int} {ss : List ByteArray} {S C F P : Int} (h : cardOk d f ss = false) : costOf d f ss S C F P = -1 := by unfold costOf; rw [h]; rfl
theorem costOf_no2 {d f : Int} {ss : List ByteArray} {S C F P : Int} (h : ratesOk S C F P = false) : costOf d f ss S C F P = -1 := by unfold costOf; rw [h, Bool.and_false]; rfl
theorem costOf_yes {d f : Int} {ss : List ByteArray} {S C F P : Int} (h : cardOk d f ss = true) (h2 : ratesOk S C F P = true) : costOf d f ss S C F P = S * tilesOf d f ss + C * cutLen d f ss + F * foldSum ss ss.length := by unfold costOf; rw [h, h2]; rfl
theorem costOf_bd (d f : Int) (ss : List ByteArray) (S C F P : Int) (hs : ∀ x ∈ ss, x.size ≤ 16777216) : -100000000000000 ≤ costOf d f ss S C F P ∧ costOf d f ss S C F P ≤ 100000000000000 := by
  cases h : cardOk d f ss
  · rw [costOf_no1 h]; omega
  · cases h2 : ratesOk S C F P
    · rw [costOf_no2 h2]; omega
    · rw [costOf_yes h h2]
      obtain ⟨r1, r2, r3, r4, r5, r6⟩ := ratesOk_bd h2
      obtain ⟨q1, q2, q3, q4, q5, q6⟩ := cardOk_bd h
      have t1 := tiles_bd h
      have t2 := cutLen_bd h hs
      have t3 := foldSum_bd ss hs ss.length (Nat.le_refl _)
      have m1 := mul_bd (N := 160) r1 r2 t1.1 t1.2 (by omega)
      have m2 := mul_bd (N := 167772160) r3 r4 t2.1 t2.2 (by omega)
      have m3 := mul_bd (N := 167772180) r5 r6 (b := foldSum ss ss.length) (by omega) (by omega) (by omega)
      omega
set_option maxHeartbeats 3200000 in
theorem i_CostOf (d f S C F P : Int) (B : Nat) (A : Option Addr) (n c : Nat) (ss : List ByteArray) (w : World) (hS : Strs w B A n ss) (hB : B ≤ w.heap.size) :
    Calls Try.prog 13 #[.agg #[.int .i64 d, .int .i64 f, .slice A n c], .agg #[.int .i64 S, .int .i64 C, .int .i64 F, .int .i64 P], .int .i64 0] w fun e w' => e = .returned (.int .i64 (costOf d f ss S C F P)) ∧ Below w.heap.size w w' := by
  have hn := hS.nb
  have hl := hS.len
  have h08 : inB 0 0 8 = true := by decide
  have hS2 := ((hS.alloc hB (.cells #[.int .i64 d, .int .i64 f, .slice A n c] 26)).alloc (by simp; omega) (.cells #[.int .i64 S, .int .i64 C, .int .i64 F, .int .i64 P] 29))
  have hka : ((w.alloc (.cells #[.int .i64 d, .int .i64 f, .slice A n c] 26)).alloc (.cells #[.int .i64 S, .int .i64 C, .int .i64 F, .int .i64 P] 29)).heap[w.heap.size]? = some (.cells #[.int .i64 d, .int .i64 f, .slice A n c] 26 (0, 0)) := blk_alloc (blk_new _ _) _
  have hkb : ((w.alloc (.cells #[.int .i64 d, .int .i64 f, .slice A n c] 26)).alloc (.cells #[.int .i64 S, .int .i64 C, .int .i64 F, .int .i64 P] 29)).heap[w.heap.size + 1]? = some (.cells #[.int .i64 S, .int .i64 C, .int .i64 F, .int .i64 P] 29 (0, 0)) := blk_new_at _ _ (by simp)
  cases hc : cardOk d f ss
  · have HR := Lib.hid (costOf_no1 (S := S) (C := C) (F := F) (P := P) hc)
    have HC := Lib.hid hc
    clear hc hl
    go_enter Try.func13, Try.ntmps13
    go_wp2_with (go_at_call 80; refine (i_CardOk _ _ _ _ _ ss _ (hS2.more (by simp; omega))).mono ?_; rw [HC.out]; rintro e w1 ⟨rfl, hb1⟩; obtain ⟨hcb1, hfb1⟩ := bcell hb1; have hz_w1_0 : w.heap.size < w1.heap.size := (by have hzz := hb1.size; (try simp at hzz); omega); have hy_w1_0 := Nat.le_of_lt hz_w1_0; have hz_w1_1 : w.heap.size + 1 < w1.heap.size := (by have hzz := hb1.size; (try simp at hzz); omega); have hy_w1_1 := Nat.le_of_lt hz_w1_1; (have hbw1 : Below w.heap.size w w1 := bel))
    go_ret
    exact ⟨ret_int HR.out.symm, hbw1⟩
  · cases hrt : ratesOk S C F P
    · have HR := Lib.hid (costOf_no2 (d := d) (f := f) (ss := ss) hrt)
      have HC := Lib.hid hc
      have HRT := Lib.hid hrt
      clear hc hrt hl
      go_enter Try.func13, Try.ntmps13
      go_wp2_with (first | (go_at_call 80; refine (i_CardOk _ _ _ _ _ ss _ (hS2.more (by simp; omega))).mono ?_; rw [HC.out]; rintro e w1 ⟨rfl, hb1⟩; obtain ⟨hcb1, hfb1⟩ := bcell hb1; have hz_w1_0 : w.heap.size < w1.heap.size := (by have hzz := hb1.size; (try simp at hzz); omega); have hy_w1_0 := Nat.le_of_lt hz_w1_0; have hz_w1_1 : w.heap.size + 1 < w1.heap.size := (by have hzz := hb1.size; (try simp at hzz); omega); have hy_w1_1 := Nat.le_of_lt hz_w1_1; (have hbw1 : Below w.heap.size w w1 := bel)) | (go_at_call 24; refine (i_RatesOk S C F P _).mono ?_; rw [HRT.out]; rintro e w2 ⟨rfl, hb2⟩; (have hbw2 : Below w.heap.size w w2 := hbw1.trans (hb2.mono hbw1.size)); (have hk2 := blk_next (blk_next hka hb1) hb2); (have hr2 := blk_next (blk_next hkb hb1) hb2); obtain ⟨hx0, hx1, hx2, hxl⟩ := blk3 hk2; obtain ⟨hy0, hy1, hy2, hy3, hyl⟩ := blk4 hr2))
      go_ret
      exact ⟨ret_int HR.out.symm, hbw2⟩
    · have HR := Lib.hid (costOf_yes hc hrt)
      obtain ⟨q1, q2, q3, q4, q5, q6⟩ := cardOk_bd hc
      obtain ⟨r1, r2, r3, r4, r5, r6⟩ := ratesOk_bd hrt
      have t1 := tiles_bd hc
      have t2 := cutLen_bd hc hS.sb
      have HC := Lib.hid hc
      have HRT := Lib.hid hrt
      have HL := Lib.hid hl
      rw [hl] at q5 q6
      have htc := fun (W : World) (h : Strs W B A n ss) (hb : B ≤ W.heap.size) => i_TileCount d f B A n c ss W h hb
      have hcl := fun (W : World) (h : Strs W B A n ss) (hb : B ≤ W.heap.size) => i_CutLength d f B A n c ss W h hb
      have m1 := mul_bd (N := 160) r1 r2 t1.1 t1.2 (by omega)
      have m2 := mul_bd (N := 167772160) r3 r4 t2.1 t2.2 (by omega)
      generalize hT : tilesOf d f ss = T at *
      generalize hK : cutLen d f ss = K at *
      have HTC := hide htc
      have HCL := hide hcl
      have hw1 : IntKind.i64.wrap (S * T) = S * T := by rw [IntKind.wrap_i64]; omega
      have hw2 : IntKind.i64.wrap (C * K) = C * K := by rw [IntKind.wrap_i64]; omega
      have hw3 : IntKind.i64.wrap (S * T + C * K) = S * T + C * K := by rw [IntKind.wrap_i64]; omega
      clear hc hrt hl htc hcl hT hK t1 t2
      go_enter Try.func13, Try.ntmps13
      go_wp2_with (first | (go_at_call 80; refine (i_CardOk _ _ _ _ _ ss _ (hS2.more (by simp; omega))).mono ?_; rw [HC.out]; rintro e w1 ⟨rfl, hb1⟩; obtain ⟨hcb1, hfb1⟩ := bcell hb1; have hz_w1_0 : w.heap.size < w1.heap.size := (by have hzz := hb1.size; (try simp at hzz); omega); have hy_w1_0 := Nat.le_of_lt hz_w1_0; have hz_w1_1 : w.heap.size + 1 < w1.heap.size := (by have hzz := hb1.size; (try simp at hzz); omega); have hy_w1_1 := Nat.le_of_lt hz_w1_1; (have hbw1 : Below w.heap.size w w1 := bel)) | (go_at_call 24; refine (i_RatesOk S C F P _).mono ?_; rw [HRT.out]; rintro e w2 ⟨rfl, hb2⟩; (have hbw2 : Below w.heap.size w w2 := hbw1.trans (hb2.mono hbw1.size)); (have hk2 := blk_next (blk_next hka hb1) hb2); (have hr2 := blk_next (blk_next hkb hb1) hb2); obtain ⟨hx0, hx1, hx2, hxl⟩ := blk3 hk2; obtain ⟨hy0, hy1, hy2, hy3, hyl⟩ := blk4 hr2) | (go_at_call 81; refine (i_within _ _ _ _).mono ?_; rintro e w' ⟨rfl, rfl⟩))
      go_loopw [7, 26] (fun q i wr => ∃ (j : Nat) (G : Int), j ≤ n ∧ i = .int .i64 j ∧ q = .int .i64 G ∧ Hid (G = foldSum ss j) ∧ Below w2.heap.size w2 wr) (fun _ i _ => n - (intOf i).toNat)
      case atStart => exact ⟨0, 0, Nat.zero_le _, rfl, rfl, rfl, Below.refl _ _⟩
      case round =>
        obtain ⟨j, G, hj, rfl, rfl, HG, hb⟩ := hrel
        have hbs := hb.size
        have hbwr : Below w.heap.size w wr := hbw2.trans (hb.mono hbw2.size)
        have hSr := hS.below (hbwr.mono hB)
        have hzw := hbwr.size
        have hkr := blk_next hk2 hb
        have hrr := blk_next hr2 hb
        obtain ⟨hu0, hu1, hu2, hul⟩ := blk3 hkr
        obtain ⟨hv0, hv1, hv2, hv3, hvl⟩ := blk4 hrr
        have hG := foldSum_bd ss hS.sb j (by rw [HL.out]; omega)
        rw [← HG.out] at hG
        by_cases hlt : j < n
        · obtain ⟨hk3, ad, rfl, hab, hcw, hsb⟩ := hSr.at_ (k := j) hlt
          have HS := Lib.hid (foldSum_step hk3)
          have hfb := foldsOf_bd ss[j] hsb
          have hwg : IntKind.i64.wrap (G + foldsOf ss[j]) = G + foldsOf ss[j] := by rw [IntKind.wrap_i64]; omega
          clear hG hfb
          go_wp2_with (go_at_call 82; refine (i_CountFolds _ _ hsb).mono ?_; rintro e w3 ⟨rfl, hb3⟩)
          go_roundw
          case rel => exact ⟨j + 1, G + foldsOf ss[j], by omega, by go_num, rfl, by unfold Hid; rw [HS.out, HG.out], hb.trans (Below.mono hb3 hbs)⟩
          case measure => simp [intOf]; omega
        · have hjn : j = n := by omega
          have HG2 : Hid (G = foldSum ss ss.length) := by unfold Hid; rw [HL.out, ← hjn]; exact HG.out
          have m3 := mul_bd (N := 167772180) r5 r6 (b := G) (by omega) (by omega) (by omega)
          have hw4 : IntKind.i64.wrap (F * G) = F * G := by rw [IntKind.wrap_i64]; omega
          have hw5 : IntKind.i64.wrap (S * T + C * K + F * G) = S * T + C * K + F * G := by rw [IntKind.wrap_i64]; omega
          have hw0 : IntKind.i64.wrap 0 = 0 := by decide
          clear hG m3 hjn
          go_wp2_with fail
          go_region_held3 (fun W => (∀ b o, b < wr.heap.size → W.cell? ⟨b, o, none⟩ = (wr).cell? ⟨b, o, none⟩) ∧ (∀ b o, b < wr.heap.size → W.frozen? ⟨b, o, none⟩ = (wr).frozen? ⟨b, o, none⟩) ∧ Below (wr.heap.size) (wr) W) (exact keep_of bel) (first | (go_at_call 83; have hq := (‹_ ∧ _ ∧ Below _ _ _›).2.2; refine (unhide HTC _ ?_ ?_).mono ?_; exact hSr.below (hq.mono (by omega)); (first | exact Nat.le_trans (by omega) hq.size | omega); rintro e w4 ⟨rfl, hb4⟩; have hqs4 := hq.size; have hbs4 := hb4.size; (try simp at hqs4); (try simp at hbs4)) | (go_at_call 84; have hq := (‹_ ∧ _ ∧ Below _ _ _›).2.2; refine (unhide HCL _ ?_ ?_).mono ?_; exact hSr.below (hq.mono (by omega)); (first | exact Nat.le_trans (by omega) hq.size | omega); rintro e w5 ⟨rfl, hb5⟩; have hqs5 := hq.size; have hbs5 := hb5.size; (try simp at hqs5); (try simp at hbs5)))
          all_goals (
            go_wp2
            go_ret
            exact ⟨ret_int (by rw [HR.out, ← HG2.out]), hbwr.trans (Below.mono (by first | exact bel) hzw)⟩)
set_option maxHeartbeats 3200000 in
theorem s_CostOf (d f S C F P : Int) (B : Nat) (A : Option Addr) (n c : Nat) (ss : List ByteArray) (w : World) (hS : Strs w B A n ss) (hB : B ≤ w.heap.size) :
    Calls Try.prog 21 #[.agg #[.int .i64 d, .int .i64 f, .slice A n c], .agg #[.int .i64 S, .int .i64 C, .int .i64 F, .int .i64 P], .int .i64 0] w fun e w' => e = .returned (.int .i64 (costOf d f ss S C F P)) ∧ Below w.heap.size w w' := by
  have hn := hS.nb
  have hl := hS.len
  have h08 : inB 0 0 8 = true := by decide
  have hS2 := ((hS.alloc hB (.cells #[.int .i64 d, .int .i64 f, .slice A n c] 26)).alloc (by simp; omega) (.cells #[.int .i64 S, .int .i64 C, .int .i64 F, .int .i64 P] 29))
  have hka : ((w.alloc (.cells #[.int .i64 d, .int .i64 f, .slice A n c] 26)).alloc (.cells #[.int .i64 S, .int .i64 C, .int .i64 F, .int .i64 P] 29)).heap[w.heap.size]? = some (.cells #[.int .i64 d, .int .i64 f, .slice A n c] 26 (0, 0)) := blk_alloc (blk_new _ _) _
  have hkb : ((w.alloc (.cells #[.int .i64 d, .int .i64 f, .slice A n c] 26)).alloc (.cells #[.int .i64 S, .int .i64 C, .int .i64 F, .int .i64 P] 29)).heap[w.heap.size + 1]? = some (.cells #[.int .i64 S, .int .i64 C, .int .i64 F, .int .i64 P] 29 (0, 0)) := blk_new_at _ _ (by simp)
  cases hc : cardOk d f ss
  · have HR := Lib.hid (costOf_no1 (S := S) (C := C) (F := F) (P := P) hc)
    have HC := Lib.hid hc
    clear hc hl
    go_enter Try.func21, Try.ntmps21
    go_wp2_with (go_at_call 90; refine (s_CardOk _ _ _ _ _ ss _ (hS2.more (by simp; omega))).mono ?_; rw [HC.out]; rintro e w1 ⟨rfl, hb1⟩; obtain ⟨hcb1, hfb1⟩ := bcell hb1; have hz_w1_0 : w.heap.size < w1.heap.size := (by have hzz := hb1.size; (try simp at hzz); omega); have hy_w1_0 := Nat.le_of_lt hz_w1_0; have hz_w1_1 : w.heap.size + 1 < w1.heap.size := (by have hzz := hb1.size; (try simp at hzz); omega); have hy_w1_1 := Nat.le_of_lt hz_w1_1; (have hbw1 : Below w.heap.size w w1 := bel))
    go_ret
    exact ⟨ret_int HR.out.symm, hbw1⟩
  · cases hrt : ratesOk S C F P
    · have HR := Lib.hid (costOf_no2 (d := d) (f := f) (ss := ss) hrt)
      have HC := Lib.hid hc
      have HRT := Lib.hid hrt
      clear hc hrt hl
      go_enter Try.func21, Try.ntmps21
      go_wp2_with (first | (go_at_call 90; refine (s_CardOk _ _ _ _ _ ss _ (hS2.more (by simp; omega))).mono ?_; rw [HC.out]; rintro e w1 ⟨rfl, hb1⟩; obtain ⟨hcb1, hfb1⟩ := bcell hb1; have hz_w1_0 : w.heap.size < w1.heap.size := (by have hzz := hb1.size; (try simp at hzz); omega); have hy_w1_0 := Nat.le_of_lt hz_w1_0; have hz_w1_1 : w.heap.size + 1 < w1.heap.size := (by have hzz := hb1.size; (try simp at hzz); omega); have hy_w1_1 := Nat.le_of_lt hz_w1_1; (have hbw1 : Below w.heap.size w w1 := bel)) | (go_at_call 92; refine (s_RatesOk S C F P _).mono ?_; rw [HRT.out]; rintro e w2 ⟨rfl, hb2⟩; (have hbw2 : Below w.heap.size w w2 := hbw1.trans (hb2.mono hbw1.size)); (have hk2 := blk_next (blk_next hka hb1) hb2); (have hr2 := blk_next (blk_next hkb hb1) hb2); obtain ⟨hx0, hx1, hx2, hxl⟩ := blk3 hk2; obtain ⟨hy0, hy1, hy2, hy3, hyl⟩ := blk4 hr2))
      go_ret
      exact ⟨ret_int HR.out.symm, hbw2⟩
    · have HR := Lib.hid (costOf_yes hc hrt)
      obtain ⟨q1, q2, q3, q4, q5, q6⟩ := cardOk_bd hc
      obtain ⟨r1, r2, r3, r4, r5, r6⟩ := ratesOk_bd hrt
      have t1 := tiles_bd hc
      have t2 := cutLen_bd hc hS.sb
      have HC := Lib.hid hc
      have HRT := Lib.hid hrt
      have HL := Lib.hid hl
      rw [hl] at q5 q6
      have htc := fun (W : World) (h : Strs W B A n ss) (hb : B ≤ W.heap.size) => s_TileCount d f B A n c ss W h hb
      have hcl := fun (W : World) (h : Strs W B A n ss) (hb : B ≤ W.heap.size) => s_CutLength d f B A n c ss W h hb
      have m1 := mul_bd (N := 160) r1 r2 t1.1 t1.2 (by omega)
      have m2 := mul_bd (N := 167772160) r3 r4 t2.1 t2.2 (by omega)
      generalize hT : tilesOf d f ss = T at *
      generalize hK : cutLen d f ss = K at *
      have HTC := hide htc
      have HCL := hide hcl
      have hw1 : IntKind.i64.wrap (S * T) = S * T := by rw [IntKind.wrap_i64]; omega
      have hw2 : IntKind.i64.wrap (C * K) = C * K := by rw [IntKind.wrap_i64]; omega
      have hw3 : IntKind.i64.wrap (S * T + C * K) = S * T + C * K := by rw [IntKind.wrap_i64]; omega
      clear hc hrt hl htc hcl hT hK t1 t2
      go_enter Try.func21, Try.ntmps21
      go_wp2_with (first | (go_at_call 90; refine (s_CardOk _ _ _ _ _ ss _ (hS2.more (by simp; omega))).mono ?_; rw [HC.out]; rintro e w1 ⟨rfl, hb1⟩; obtain ⟨hcb1, hfb1⟩ := bcell hb1; have hz_w1_0 : w.heap.size < w1.heap.size := (by have hzz := hb1.size; (try simp at hzz); omega); have hy_w1_0 := Nat.le_of_lt hz_w1_0; have hz_w1_1 : w.heap.size + 1 < w1.heap.size := (by have hzz := hb1.size; (try simp at hzz); omega); have hy_w1_1 := Nat.le_of_lt hz_w1_1; (have hbw1 : Below w.heap.size w w1 := bel)) | (go_at_call 92; refine (s_RatesOk S C F P _).mono ?_; rw [HRT.out]; rintro e w2 ⟨rfl, hb2⟩; (have hbw2 : Below w.heap.size w w2 := hbw1.trans (hb2.mono hbw1.size)); (have hk2 := blk_next (blk_next hka hb1) hb2); (have hr2 := blk_next (blk_next hkb hb1) hb2); obtain ⟨hx0, hx1, hx2, hxl⟩ := blk3 hk2; obtain ⟨hy0, hy1, hy2, hy3, hyl⟩ := blk4 hr2) | (go_at_call 93; refine (s_l01In _ _ _ _).mono ?_; rintro e w' ⟨rfl, rfl⟩))
      have hSr := hS.below (hbw2.mono hB)
      have hzw := hbw2.size
      have hw0 : IntKind.i64.wrap 0 = 0 := by decide
      go_cut [7] (fun s7 wx => s7 = .int .i64 (S * T + C * K) ∧ Below w2.heap.size w2 wx)
      case first =>
        go_region_held3 (fun W => (∀ b o, b < w2.heap.size → W.cell? ⟨b, o, none⟩ = (w2).cell? ⟨b, o, none⟩) ∧ (∀ b o, b < w2.heap.size → W.frozen? ⟨b, o, none⟩ = (w2).frozen? ⟨b, o, none⟩) ∧ Below (w2.heap.size) (w2) W) (exact keep_of bel) (first | (go_at_call 19; have hq := (‹_ ∧ _ ∧ Below _ _ _›).2.2; refine (unhide HTC _ ?_ ?_).mono ?_; exact hSr.below (hq.mono (by omega)); (first | exact Nat.le_trans (by omega) hq.size | omega); rintro e w4 ⟨rfl, hb4⟩; have hqs4 := hq.size; have hbs4 := hb4.size; (try simp at hqs4); (try simp at hbs4)) | (go_at_call 20; have hq := (‹_ ∧ _ ∧ Below _ _ _›).2.2; refine (unhide HCL _ ?_ ?_).mono ?_; exact hSr.below (hq.mono (by omega)); (first | exact Nat.le_trans (by omega) hq.size | omega); rintro e w5 ⟨rfl, hb5⟩; have hqs5 := hq.size; have hbs5 := hb5.size; (try simp at hqs5); (try simp at hbs5)))
        all_goals (go_wp2_with fail)
        all_goals (go_meet)
        all_goals (refine ⟨rfl, ?_⟩; exact bel)
      obtain ⟨rfl, hbc⟩ := hcut
      obtain ⟨w6, hwc⟩ : ∃ W, W = wc := ⟨_, rfl⟩
      subst hwc
      have hk6 := blk_next hk2 hbc
      have hr6 := blk_next hr2 hbc
      have hbw6 : Below w.heap.size w w6 := hbw2.trans (hbc.mono hbw2.size)
      clear hx0 hx1 hx2 hxl hy0 hy1 hy2 hy3 hyl
      obtain ⟨hx0, hx1, hx2, hxl⟩ := blk3 hk6
      go_wp2
      go_loopw [7, 8] (fun q i wr => ∃ (j : Nat) (G : Int), j ≤ n ∧ i = .int .i64 j ∧ q = .int .i64 (S * T + C * K + F * G) ∧ Hid (G = foldSum ss j) ∧ Below w6.heap.size w6 wr) (fun _ i _ => n - (intOf i).toNat)
      case atStart => exact ⟨0, 0, Nat.zero_le _, rfl, by rw [Int.mul_zero, Int.add_zero], rfl, Below.refl _ _⟩
      case round =>
        obtain ⟨j, G, hj, rfl, rfl, HG, hb⟩ := hrel
        have hbs := hb.size
        have hbwr : Below w.heap.size w wr := hbw6.trans (hb.mono hbw6.size)
        have hSr := hS.below (hbwr.mono hB)
        have hzw := hbwr.size
        have hkr := blk_next hk6 hb
        have hrr := blk_next hr6 hb
        obtain ⟨hu0, hu1, hu2, hul⟩ := blk3 hkr
        obtain ⟨hv0, hv1, hv2, hv3, hvl⟩ := blk4 hrr
        have hG := foldSum_bd ss hS.sb j (by rw [HL.out]; omega)
        rw [← HG.out] at hG
        by_cases hlt : j < n
        · obtain ⟨hk3, ad, rfl, hab, hcw, hsb⟩ := hSr.at_ (k := j) hlt
          have HS := Lib.hid (foldSum_step hk3)
          have hfb := foldsOf_bd ss[j] hsb
          have hG2 := foldSum_bd ss hS.sb (j + 1) (by rw [HL.out]; omega)
          rw [HS.out, ← HG.out] at hG2
          have m3 := mul_bd (N := 16777218) r5 r6 (b := foldsOf ss[j]) (by omega) (by omega) (by omega)
          have m4 := mul_bd (N := 167772180) r5 r6 (b := G + foldsOf ss[j]) (by omega) (by omega) (by omega)
          have e5 : F * (G + foldsOf ss[j]) = F * G + F * foldsOf ss[j] := Int.mul_add _ _ _
          have hwg : IntKind.i64.wrap (F * foldsOf ss[j]) = F * foldsOf ss[j] := by rw [IntKind.wrap_i64]; omega
          have hwh : IntKind.i64.wrap (S * T + C * K + F * G + F * foldsOf ss[j]) = S * T + C * K + F * G + F * foldsOf ss[j] := by rw [IntKind.wrap_i64]; omega
          have HE5 := Lib.hid e5
          have hq1 : (ad.add j).block < wr.heap.size := by rw [block_of_add]; omega
          clear hG hfb hG2 m3 m4 e5
          go_wp2_with fail
          go_region_held3 (fun W => (∀ p : Addr, p.block < wr.heap.size → W.cell? p = (wr).cell? p) ∧ (∀ p : Addr, p.block < wr.heap.size → W.frozen? p = (wr).frozen? p) ∧ Below (wr.heap.size) (wr) W) (exact keep_ofP bel) (first | (go_at_call 15; have hq := (‹_ ∧ _ ∧ Below _ _ _›).2.2; refine (s_CountFolds _ _ hsb).mono ?_; rintro e w3 ⟨rfl, hb3⟩; have hqs3 := hq.size; have hbs3 := hb3.size; (try simp at hqs3); (try simp at hbs3)))
          all_goals (
            go_wp2
            go_roundw
            case rel => exact ⟨j + 1, G + foldsOf ss[j], by omega, by go_num, by rw [HE5.out, Int.add_assoc (S * T + C * K)], by unfold Hid; rw [HS.out, HG.out], hb.trans (Below.mono (by first | exact bel) hbs)⟩
            case measure => simp [intOf]; omega)
        · have hjn : j = n := by omega
          have HG2 : Hid (G = foldSum ss ss.length) := by unfold Hid; rw [HL.out, ← hjn]; exact HG.out
          clear hG hjn
          go_wp2
          go_ret
          exact ⟨ret_int (by rw [HR.out, ← HG2.out]), hbwr⟩
end Go.Proofs.Yteffbjddgdjkmaa
