/- WeakestStrip, FirstToFail of two copies (the program), for valid copies. -/
import Derived.Test.YtdddglihomchfaaWear3
import Derived.Test.YtdddglihomchfaaDraw3
import Derived.Deep.RegionHeld3
namespace Go.Proofs.Ytdddglihomchfaa
open Go.ChangeShapes Go.WideShapes Go.ChangeAt Go.RowKit
set_option linter.unusedVariables false
set_option linter.unusedSimpArgs false
set_option maxRecDepth 10000

def w2Inv (ss : List ByteArray) (j x : Nat) : Prop := (j = 0 ∧ x = 0) ∨ (x < j ∧ foldsOf (sAt ss x) = mostF ss j)
theorem w2_gt {ss : List ByteArray} {j : Nat} (hj : j < ss.length) (h2 : mostF ss j < foldsOf ss[j]) : w2Inv ss (j + 1) j :=
  .inr ⟨by omega, by rw [sAt_get ss j hj, mostF_gt hj h2]⟩
theorem w2_le {ss : List ByteArray} {j x : Nat} (h : w2Inv ss j x) (hj : j < ss.length) (hs : ∀ x ∈ ss, x.size ≤ 16777216) (h2 : ¬ mostF ss j < foldsOf ss[j]) : w2Inv ss (j + 1) x := by
  rcases h with ⟨rfl, rfl⟩ | ⟨h1, h3⟩
  · have hb := foldsOf_bd ss[0] (hs _ (List.getElem_mem hj))
    refine .inr ⟨by omega, ?_⟩
    rw [sAt_get ss 0 hj, mostF_le hj h2]
    have : mostF ss 0 = -1 := rfl
    rw [this] at h2 ⊢
    omega
  · exact .inr ⟨by omega, by rw [mostF_le hj h2]; exact h3⟩
set_option maxHeartbeats 1600000 in
theorem i_weakest2 (d f : Int) (B : Nat) (A : Option Addr) (n c : Nat) (ss : List ByteArray) (w : World) (hS : Strs w B A n ss) (hB : B ≤ w.heap.size) :
    Calls Try.prog 61 #[.agg #[.int .i64 d, .int .i64 f, .slice A n c]] w fun e w' => ∃ a : Nat, e = .returned (.tuple #[.int .i64 a, .int .i64 (mostF ss n)]) ∧ w2Inv ss n a ∧ Below w.heap.size w w' := by
  have hn := hS.nb
  have hl := hS.len
  have HL := Lib.hid hl
  have HSB := hide hS.sb
  have hka := blk_new w (.cells #[.int .i64 d, .int .i64 f, .slice A n c] 30)
  clear hl
  go_enter Try.func61, Try.ntmps61
  go_wp2
  go_loopw [4, 5, 12] (fun a q i wr => ∃ (j x : Nat) (M : Int), j ≤ n ∧ i = .int .i64 j ∧ a = .int .i64 x ∧ q = .int .i64 M ∧ Hid (M = mostF ss j) ∧ Hid (w2Inv ss j x) ∧ Below (w.heap.size + 1) (w.alloc (.cells #[.int .i64 d, .int .i64 f, .slice A n c] 30)) wr) (fun _ _ i _ => n - (intOf i).toNat)
  case atStart => exact ⟨0, 0, -1, Nat.zero_le _, rfl, rfl, rfl, rfl, .inl ⟨rfl, rfl⟩, Below.refl _ _⟩
  case round =>
    obtain ⟨j, x, M, hj, rfl, rfl, rfl, HM, HI, hb⟩ := hrel
    have hkr := blk_below hka hb (by omega)
    have hzr : w.heap.size < wr.heap.size := blk_lt hkr
    have hbw : Below w.heap.size w wr := ((Below.refl _ _).alloc (Nat.le_refl _) _).trans (hb.mono (by omega))
    have hSr := hS.below (hbw.mono hB)
    by_cases hlt : j < n
    · obtain ⟨hk3, ad, rfl, hab, hcw, hsb⟩ := hSr.at_ (k := j) hlt
      by_cases hgt : mostF ss j < foldsOf ss[j]
      · have HS := Lib.hid (mostF_gt hk3 hgt)
        have HI2 := hide (w2_gt hk3 hgt)
        rw [← HM.out] at hgt
        go_wp2_with (go_at_call 83; refine (i_CountFolds _ _ hsb).mono ?_; rintro e w3 ⟨rfl, hb3⟩)
        go_roundw
        case rel => exact ⟨j + 1, j, _, by omega, by go_num, rfl, rfl, HS.out.symm, HI2, hb.trans (Below.mono hb3 (by omega))⟩
        case measure => simp [intOf]; omega
      · have HS := Lib.hid (mostF_le hk3 hgt)
        have HI2 := hide (w2_le HI.out hk3 HSB.out hgt)
        rw [← HM.out] at hgt
        go_wp2_with (go_at_call 83; refine (i_CountFolds _ _ hsb).mono ?_; rintro e w3 ⟨rfl, hb3⟩)
        go_roundw
        case rel => exact ⟨j + 1, x, M, by omega, by go_num, rfl, rfl, by unfold Hid; rw [HS.out]; exact HM.out, HI2, hb.trans (Below.mono hb3 (by omega))⟩
        case measure => simp [intOf]; omega
    · have hjn : j = n := by omega
      have HM2 : Hid (M = mostF ss n) := by unfold Hid; rw [← hjn]; exact HM.out
      have HI2 : Hid (w2Inv ss n x) := by unfold Hid; rw [← hjn]; exact HI.out
      clear hjn
      go_wp2
      refine bodyPost_ret (v := .tuple #[.int .i64 x, .int .i64 M]) (by simp [results, Try.results61, go_sem, *]) rfl ?_
      exact ⟨x, by rw [HM2.out], HI2.out, hbw⟩
set_option maxHeartbeats 1600000 in
theorem i_WeakestStrip (d f : Int) (A : Option Addr) (c : Nat) (ss : List ByteArray) (K W H O : Int) (w : World) (hS : Strs w w.heap.size A ss.length ss) (hc : copyOk d f ss K W H O = true) :
    Calls Try.prog 26 #[.agg #[.int .i64 d, .int .i64 f, .slice A ss.length c, .int .i64 K, .int .i64 W, .int .i64 H, .int .i64 O]] w fun e w' => ∃ a : Nat, e = .returned (.int .i64 a) ∧ a < ss.length ∧ foldsOf (sAt ss a) = mostF ss ss.length ∧ Below w.heap.size w w' := by
  have hlen := copyOk_len hc
  have HC := Lib.hid hc
  clear hc
  have hka := blk_new w (.cells #[.int .i64 d, .int .i64 f, .slice A ss.length c, .int .i64 K, .int .i64 W, .int .i64 H, .int .i64 O] 33)
  have hb0 : Below w.heap.size w (w.alloc (.cells #[.int .i64 d, .int .i64 f, .slice A ss.length c, .int .i64 K, .int .i64 W, .int .i64 H, .int .i64 O] 33)) := bel
  go_enter Try.func26, Try.ntmps26
  go_wp2_with fail
  generalize (w.alloc (.cells #[.int .i64 d, .int .i64 f, .slice A ss.length c, .int .i64 K, .int .i64 W, .int .i64 H, .int .i64 O] 33)) = w0 at *
  have hz0 := hb0.size
  refine (i_CopyOk d f w.heap.size A ss.length c ss K W H O w0 (hS.below hb0) hz0).mono ?_
  rw [HC.out]
  rintro e w1 ⟨rfl, hb1⟩
  have hk1 := blk_next hka hb1
  have hbw1 := hb0.trans (hb1.mono hz0)
  have hz1 := hbw1.size
  obtain ⟨hx0, hx1, hx2, hx3, hx4, hx5, hx6, hxl⟩ := blk7 hk1
  go_wp2_with fail
  refine (i_weakest2 d f w.heap.size A ss.length c ss w1 (hS.below hbw1) hz1).mono ?_
  rintro e w2 ⟨a, rfl, hI, hb2⟩
  have HI := hide hI
  clear hI
  go_wp2
  go_ret
  refine ⟨a, rfl, ?_, ?_, hbw1.trans (hb2.mono hz1)⟩
  · rcases HI.out with h | h
    · omega
    · exact h.1
  · rcases HI.out with h | h
    · omega
    · exact h.2
theorem blk14 {w : World} {g : Nat} {t : TypeId} {z0 z1 z2 z3 z4 z5 z6 z7 z8 z9 z10 z11 z12 z13 : Value} (h : w.heap[g]? = some (.cells #[z0, z1, z2, z3, z4, z5, z6, z7, z8, z9, z10, z11, z12, z13] t (0, 0))) : w.cell? ⟨g, 0, none⟩ = some z0 ∧ w.cell? ⟨g, 1, none⟩ = some z1 ∧ w.cell? ⟨g, 2, none⟩ = some z2 ∧ w.cell? ⟨g, 3, none⟩ = some z3 ∧ w.cell? ⟨g, 4, none⟩ = some z4 ∧ w.cell? ⟨g, 5, none⟩ = some z5 ∧ w.cell? ⟨g, 6, none⟩ = some z6 ∧ w.cell? ⟨g, 7, none⟩ = some z7 ∧ w.cell? ⟨g, 8, none⟩ = some z8 ∧ w.cell? ⟨g, 9, none⟩ = some z9 ∧ w.cell? ⟨g, 10, none⟩ = some z10 ∧ w.cell? ⟨g, 11, none⟩ = some z11 ∧ w.cell? ⟨g, 12, none⟩ = some z12 ∧ w.cell? ⟨g, 13, none⟩ = some z13 ∧ g < w.heap.size := ⟨(blk_cells h 0).1, (blk_cells h 1).1, (blk_cells h 2).1, (blk_cells h 3).1, (blk_cells h 4).1, (blk_cells h 5).1, (blk_cells h 6).1, (blk_cells h 7).1, (blk_cells h 8).1, (blk_cells h 9).1, (blk_cells h 10).1, (blk_cells h 11).1, (blk_cells h 12).1, (blk_cells h 13).1, blk_lt h⟩
set_option maxHeartbeats 3200000 in
theorem i_FirstToFail2 (d f : Int) (B : Nat) (A : Option Addr) (c : Nat) (ss : List ByteArray) (K W H O O1 : Int) (g : Nat) (w : World) (hS : Strs w B A ss.length ss) (hB : B ≤ w.heap.size) (hg : w.heap[g]? = some (.cells #[.int .i64 d, .int .i64 f, .slice A ss.length c, .int .i64 K, .int .i64 W, .int .i64 H, .int .i64 O, .int .i64 d, .int .i64 f, .slice A ss.length c, .int .i64 K, .int .i64 W, .int .i64 H, .int .i64 O1] 33 (0, 0))) (hc : copyOk d f ss K W H O = true) (hc1 : copyOk d f ss K W H O1 = true) :
    Calls Try.prog 28 #[.slice (some ⟨g, 0, none⟩) 2 2] w fun e w' => e = .returned (.int .i64 (if leftOf d f ss K W H O1 < leftOf d f ss K W H O then 1 else 0)) ∧ Below w.heap.size w w' := by
  have hgl := blk_lt hg
  have HC := Lib.hid hc
  have HC1 := Lib.hid hc1
  clear hc hc1
  have hcc := fun (W1 : World) (h : Strs W1 B A ss.length ss) (hz : B ≤ W1.heap.size) => i_CopyOk d f B A ss.length c ss K W H O W1 h hz
  have hcc1 := fun (W1 : World) (h : Strs W1 B A ss.length ss) (hz : B ≤ W1.heap.size) => i_CopyOk d f B A ss.length c ss K W H O1 W1 h hz
  have hl0 := fun (W1 : World) (h : Strs W1 B A ss.length ss) (hz : B ≤ W1.heap.size) => i_LeftOf d f B A ss.length c ss K W H O W1 h hz
  have hl1 := fun (W1 : World) (h : Strs W1 B A ss.length ss) (hz : B ≤ W1.heap.size) => i_LeftOf d f B A ss.length c ss K W H O1 W1 h hz
  rw [HC.out] at hcc
  rw [HC1.out] at hcc1
  generalize leftOf d f ss K W H O = L at *
  generalize leftOf d f ss K W H O1 = L1 at *
  obtain ⟨r, hr⟩ : ∃ r : Int, (if L1 < L then (1 : Int) else 0) = r := ⟨_, rfl⟩
  rw [hr]
  have HR := Lib.hid hr
  clear hr
  have hll : ¬ L < L := Int.lt_irrefl _
  have HCC := hide hcc
  have HCC1 := hide hcc1
  have HL0 := hide hl0
  have HL1 := hide hl1
  clear hcc hcc1 hl0 hl1
  go_enter Try.func28, Try.ntmps28
  go_wp2_with (go_at_call 40; refine (i_within _ _ _ _).mono ?_; rintro e w' ⟨rfl, rfl⟩)
  go_loopw [3, 12] (fun a i wr => ∃ (j : Nat) (x : Int), j ≤ 2 ∧ i = .int .i64 j ∧ a = .int .i64 x ∧ ((j ≤ 1 ∧ x = 0) ∨ (j = 2 ∧ x = r)) ∧ Below w.heap.size w wr) (fun _ i _ => 2 - (intOf i).toNat)
  case atStart => exact ⟨0, 0, by omega, rfl, rfl, .inl ⟨by omega, rfl⟩, Below.refl _ _⟩
  case round =>
    obtain ⟨j, x, hj, rfl, rfl, hcase, hb⟩ := hrel
    have hbz := hb.size
    have hgr := blk_next hg hb
    have hS1 := hS.below (hb.mono hB)
    have hcs : (j = 0 ∧ x = 0) ∨ (j = 1 ∧ x = 0) ∨ (j = 2 ∧ x = r) := by omega
    clear hcase
    rcases hcs with ⟨rfl, rfl⟩ | ⟨rfl, rfl⟩ | ⟨rfl, rfl⟩
    · obtain ⟨hx0, hx1, hx2, hx3, hx4, hx5, hx6, hx7, hx8, hx9, hx10, hx11, hx12, hx13, hxl⟩ := blk14 hgr
      go_wp2_with fail
      clear hx0 hx1 hx2 hx3 hx4 hx5 hx6 hx7 hx8 hx9 hx10 hx11 hx12 hx13 hxl
      have hkx := blk_new wr (.cells #[.int .i64 d, .int .i64 f, .slice A ss.length c, .int .i64 K, .int .i64 W, .int .i64 H, .int .i64 O] 33)
      have hg2 := blk_alloc hgr (.cells #[.int .i64 d, .int .i64 f, .slice A ss.length c, .int .i64 K, .int .i64 W, .int .i64 H, .int .i64 O] 33)
      have hbw : Below w.heap.size w (wr.alloc (.cells #[.int .i64 d, .int .i64 f, .slice A ss.length c, .int .i64 K, .int .i64 W, .int .i64 H, .int .i64 O] 33)) := bel
      have hs2 : (wr.alloc (.cells #[.int .i64 d, .int .i64 f, .slice A ss.length c, .int .i64 K, .int .i64 W, .int .i64 H, .int .i64 O] 33)).heap.size = wr.heap.size + 1 := by simp
      generalize (wr.alloc (.cells #[.int .i64 d, .int .i64 f, .slice A ss.length c, .int .i64 K, .int .i64 W, .int .i64 H, .int .i64 O] 33)) = w2 at *
      refine (unhide HCC w2 (hS.below (hbw.mono hB)) (by omega)).mono ?_
      rintro e w3 ⟨rfl, hb3⟩
      have hkx3 := blk_next hkx hb3
      have hg3 := blk_next hg2 hb3
      have hbw3 : Below w.heap.size w w3 := hbw.trans (hb3.mono (by omega))
      have hs3 := hb3.size
      clear hkx hg2 hbw hb3 hgr hS1
      obtain ⟨hx0, hx1, hx2, hx3, hx4, hx5, hx6, hx7, hx8, hx9, hx10, hx11, hx12, hx13, hxl⟩ := blk14 hg3
      obtain ⟨hy0, hy1, hy2, hy3, hy4, hy5, hy6, hyl⟩ := blk7 hkx3
      have hS3 := hS.below (hbw3.mono hB)
      go_wp2
      go_region_held3 (fun W => (∀ b o, b < w3.heap.size → W.cell? ⟨b, o, none⟩ = (w3).cell? ⟨b, o, none⟩) ∧ (∀ b o, b < w3.heap.size → W.frozen? ⟨b, o, none⟩ = (w3).frozen? ⟨b, o, none⟩) ∧ Below (w3.heap.size) (w3) W) (exact keep_of bel) (first | (go_at_call_of 25 (Value.agg #[.int .i64 d, .int .i64 f, .slice A ss.length c, .int .i64 K, .int .i64 W, .int .i64 H, .int .i64 O]); have hq := (‹_ ∧ _ ∧ Below _ _ _›).2.2; refine (unhide HL0 _ (hS3.below (hq.mono (by omega))) (Nat.le_trans (by omega) hq.size)).mono ?_; rintro e wa ⟨rfl, hb_wa⟩; have hqs_wa := hq.size; have hbs_wa := hb_wa.size; (try simp at hqs_wa); (try simp at hbs_wa); (have hbX_wa := hq.trans (hb_wa.mono hq.size))))
      all_goals (
        go_wp2
        go_roundw
        case rel => first | exact ⟨1, 0, by omega, rfl, rfl, .inl ⟨by omega, rfl⟩, (by first | exact hbw3.trans (hbX_wb.mono (by omega)) | exact hbw3.trans (hbX_wa.mono (by omega)) | exact bel)⟩ | exact ⟨_, _, _, _, _, _, _, _, _, _, _, _, _, _, _, _, _, _, _, _, _, _, ⟨1, 0, by omega, rfl, rfl, .inl ⟨by omega, rfl⟩, (by first | exact hbw3.trans (hbX_wb.mono (by omega)) | exact hbw3.trans (hbX_wa.mono (by omega)) | exact bel)⟩, rfl⟩
        case measure => simp [intOf])
    · by_cases hL : L1 < L
      · have hr1 := HR.out
        rw [if_pos hL] at hr1
        have HR1 := Lib.hid hr1
        clear hr1
        obtain ⟨hx0, hx1, hx2, hx3, hx4, hx5, hx6, hx7, hx8, hx9, hx10, hx11, hx12, hx13, hxl⟩ := blk14 hgr
        go_wp2_with fail
        clear hx0 hx1 hx2 hx3 hx4 hx5 hx6 hx7 hx8 hx9 hx10 hx11 hx12 hx13 hxl
        have hkx := blk_new wr (.cells #[.int .i64 d, .int .i64 f, .slice A ss.length c, .int .i64 K, .int .i64 W, .int .i64 H, .int .i64 O1] 33)
        have hg2 := blk_alloc hgr (.cells #[.int .i64 d, .int .i64 f, .slice A ss.length c, .int .i64 K, .int .i64 W, .int .i64 H, .int .i64 O1] 33)
        have hbw : Below w.heap.size w (wr.alloc (.cells #[.int .i64 d, .int .i64 f, .slice A ss.length c, .int .i64 K, .int .i64 W, .int .i64 H, .int .i64 O1] 33)) := bel
        have hs2 : (wr.alloc (.cells #[.int .i64 d, .int .i64 f, .slice A ss.length c, .int .i64 K, .int .i64 W, .int .i64 H, .int .i64 O1] 33)).heap.size = wr.heap.size + 1 := by simp
        generalize (wr.alloc (.cells #[.int .i64 d, .int .i64 f, .slice A ss.length c, .int .i64 K, .int .i64 W, .int .i64 H, .int .i64 O1] 33)) = w2 at *
        refine (unhide HCC1 w2 (hS.below (hbw.mono hB)) (by omega)).mono ?_
        rintro e w3 ⟨rfl, hb3⟩
        have hkx3 := blk_next hkx hb3
        have hg3 := blk_next hg2 hb3
        have hbw3 : Below w.heap.size w w3 := hbw.trans (hb3.mono (by omega))
        have hs3 := hb3.size
        clear hkx hg2 hbw hb3 hgr hS1
        obtain ⟨hx0, hx1, hx2, hx3, hx4, hx5, hx6, hx7, hx8, hx9, hx10, hx11, hx12, hx13, hxl⟩ := blk14 hg3
        obtain ⟨hy0, hy1, hy2, hy3, hy4, hy5, hy6, hyl⟩ := blk7 hkx3
        have hS3 := hS.below (hbw3.mono hB)
        go_wp2
        go_region_held3 (fun W => (∀ b o, b < w3.heap.size → W.cell? ⟨b, o, none⟩ = (w3).cell? ⟨b, o, none⟩) ∧ (∀ b o, b < w3.heap.size → W.frozen? ⟨b, o, none⟩ = (w3).frozen? ⟨b, o, none⟩) ∧ Below (w3.heap.size) (w3) W) (exact keep_of bel) (first | (go_at_call_of 25 (Value.agg #[.int .i64 d, .int .i64 f, .slice A ss.length c, .int .i64 K, .int .i64 W, .int .i64 H, .int .i64 O1]); have hq := (‹_ ∧ _ ∧ Below _ _ _›).2.2; refine (unhide HL1 _ (hS3.below (hq.mono (by omega))) (Nat.le_trans (by omega) hq.size)).mono ?_; rintro e wa ⟨rfl, hb_wa⟩; have hqs_wa := hq.size; have hbs_wa := hb_wa.size; (try simp at hqs_wa); (try simp at hbs_wa); (have hbX_wa := hq.trans (hb_wa.mono hq.size))) | (go_at_call_of 25 (Value.agg #[.int .i64 d, .int .i64 f, .slice A ss.length c, .int .i64 K, .int .i64 W, .int .i64 H, .int .i64 O]); have hq := (‹_ ∧ _ ∧ Below _ _ _›).2.2; refine (unhide HL0 _ (hS3.below (hq.mono (by omega))) (Nat.le_trans (by omega) hq.size)).mono ?_; rintro e wb ⟨rfl, hb_wb⟩; have hqs_wb := hq.size; have hbs_wb := hb_wb.size; (try simp at hqs_wb); (try simp at hbs_wb); (have hbX_wb := hq.trans (hb_wb.mono hq.size))))
        all_goals (
          go_wp2
          go_roundw
          case rel => first | exact ⟨2, 1, by omega, rfl, rfl, .inr ⟨rfl, HR1.out⟩, (by first | exact hbw3.trans (hbX_wb.mono (by omega)) | exact hbw3.trans (hbX_wa.mono (by omega)) | exact bel)⟩ | exact ⟨_, _, _, _, _, _, _, _, _, _, _, _, _, _, _, _, _, _, _, _, _, _, ⟨2, 1, by omega, rfl, rfl, .inr ⟨rfl, HR1.out⟩, (by first | exact hbw3.trans (hbX_wb.mono (by omega)) | exact hbw3.trans (hbX_wa.mono (by omega)) | exact bel)⟩, rfl⟩
          case measure => simp [intOf])
      · have hr1 := HR.out
        rw [if_neg hL] at hr1
        have HR1 := Lib.hid hr1
        clear hr1
        obtain ⟨hx0, hx1, hx2, hx3, hx4, hx5, hx6, hx7, hx8, hx9, hx10, hx11, hx12, hx13, hxl⟩ := blk14 hgr
        go_wp2_with fail
        clear hx0 hx1 hx2 hx3 hx4 hx5 hx6 hx7 hx8 hx9 hx10 hx11 hx12 hx13 hxl
        have hkx := blk_new wr (.cells #[.int .i64 d, .int .i64 f, .slice A ss.length c, .int .i64 K, .int .i64 W, .int .i64 H, .int .i64 O1] 33)
        have hg2 := blk_alloc hgr (.cells #[.int .i64 d, .int .i64 f, .slice A ss.length c, .int .i64 K, .int .i64 W, .int .i64 H, .int .i64 O1] 33)
        have hbw : Below w.heap.size w (wr.alloc (.cells #[.int .i64 d, .int .i64 f, .slice A ss.length c, .int .i64 K, .int .i64 W, .int .i64 H, .int .i64 O1] 33)) := bel
        have hs2 : (wr.alloc (.cells #[.int .i64 d, .int .i64 f, .slice A ss.length c, .int .i64 K, .int .i64 W, .int .i64 H, .int .i64 O1] 33)).heap.size = wr.heap.size + 1 := by simp
        generalize (wr.alloc (.cells #[.int .i64 d, .int .i64 f, .slice A ss.length c, .int .i64 K, .int .i64 W, .int .i64 H, .int .i64 O1] 33)) = w2 at *
        refine (unhide HCC1 w2 (hS.below (hbw.mono hB)) (by omega)).mono ?_
        rintro e w3 ⟨rfl, hb3⟩
        have hkx3 := blk_next hkx hb3
        have hg3 := blk_next hg2 hb3
        have hbw3 : Below w.heap.size w w3 := hbw.trans (hb3.mono (by omega))
        have hs3 := hb3.size
        clear hkx hg2 hbw hb3 hgr hS1
        obtain ⟨hx0, hx1, hx2, hx3, hx4, hx5, hx6, hx7, hx8, hx9, hx10, hx11, hx12, hx13, hxl⟩ := blk14 hg3
        obtain ⟨hy0, hy1, hy2, hy3, hy4, hy5, hy6, hyl⟩ := blk7 hkx3
        have hS3 := hS.below (hbw3.mono hB)
        go_wp2
        go_region_held3 (fun W => (∀ b o, b < w3.heap.size → W.cell? ⟨b, o, none⟩ = (w3).cell? ⟨b, o, none⟩) ∧ (∀ b o, b < w3.heap.size → W.frozen? ⟨b, o, none⟩ = (w3).frozen? ⟨b, o, none⟩) ∧ Below (w3.heap.size) (w3) W) (exact keep_of bel) (first | (go_at_call_of 25 (Value.agg #[.int .i64 d, .int .i64 f, .slice A ss.length c, .int .i64 K, .int .i64 W, .int .i64 H, .int .i64 O1]); have hq := (‹_ ∧ _ ∧ Below _ _ _›).2.2; refine (unhide HL1 _ (hS3.below (hq.mono (by omega))) (Nat.le_trans (by omega) hq.size)).mono ?_; rintro e wa ⟨rfl, hb_wa⟩; have hqs_wa := hq.size; have hbs_wa := hb_wa.size; (try simp at hqs_wa); (try simp at hbs_wa); (have hbX_wa := hq.trans (hb_wa.mono hq.size))) | (go_at_call_of 25 (Value.agg #[.int .i64 d, .int .i64 f, .slice A ss.length c, .int .i64 K, .int .i64 W, .int .i64 H, .int .i64 O]); have hq := (‹_ ∧ _ ∧ Below _ _ _›).2.2; refine (unhide HL0 _ (hS3.below (hq.mono (by omega))) (Nat.le_trans (by omega) hq.size)).mono ?_; rintro e wb ⟨rfl, hb_wb⟩; have hqs_wb := hq.size; have hbs_wb := hb_wb.size; (try simp at hqs_wb); (try simp at hbs_wb); (have hbX_wb := hq.trans (hb_wb.mono hq.size))))
        all_goals (
          go_wp2
          go_roundw
          case rel => first | exact ⟨2, 0, by omega, rfl, rfl, .inr ⟨rfl, HR1.out⟩, (by first | exact hbw3.trans (hbX_wb.mono (by omega)) | exact hbw3.trans (hbX_wa.mono (by omega)) | exact bel)⟩ | exact ⟨_, _, _, _, _, _, _, _, _, _, _, _, _, _, _, _, _, _, _, _, _, _, ⟨2, 0, by omega, rfl, rfl, .inr ⟨rfl, HR1.out⟩, (by first | exact hbw3.trans (hbX_wb.mono (by omega)) | exact hbw3.trans (hbX_wa.mono (by omega)) | exact bel)⟩, rfl⟩
          case measure => simp [intOf])
    · go_wp2
      go_ret
      exact ⟨rfl, hb⟩
end Go.Proofs.Ytdddglihomchfaa
