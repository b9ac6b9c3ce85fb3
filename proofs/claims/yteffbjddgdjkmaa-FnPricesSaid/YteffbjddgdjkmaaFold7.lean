/- The contracts of ExtraCost of both packages. -/
import Derived.Test.YteffbjddgdjkmaaFold6
import Derived.Test.YteffbjddgdjkmaaBox2
import Derived.Test.YteffbjddgdjkmaaBox4
import Derived.Test.YteffbjddgdjkmaaStep2
import Derived.Test.YteffbjddgdjkmaaLawKit2
import Derived.Deep.RegionHeld3
import Derived.Deep.DeepCutAuto
namespace Go.Proofs.Yteffbjddgdjkmaa
open Go.ChangeShapes Go.WideShapes Go.ChangeAt Go.RowKit
set_option linter.unusedVariables false
set_option linter.unusedSimpArgs false
set_option maxRecDepth 10000

def extraOf (d f : Int) (ss : List ByteArray) (G L T S C F P : Int) : Int :=
  if (boxRes 100 d f ss G L T).2 && ratesOk S C F P then costOf d f (boxRes 100 d f ss G L T).1 S C F P - costOf d f ss S C F P else 0
set_option maxHeartbeats 3200000 in
theorem i_ExtraCost (d f G L T S C F P : Int) (B : Nat) (A : Option Addr) (n c : Nat) (ss : List ByteArray) (w : World) (hS : Strs w B A n ss) (hB : B ≤ w.heap.size) :
    Calls Try.prog 17 #[.agg #[.int .i64 d, .int .i64 f, .slice A n c], .agg #[.int .i64 G, .int .i64 L, .int .i64 T], .agg #[.int .i64 S, .int .i64 C, .int .i64 F, .int .i64 P]] w fun e w' => e = .returned (.int .i64 (extraOf d f ss G L T S C F P)) ∧ Below w.heap.size w w' := by
  have hn := hS.nb
  have hl := hS.len
  have hS2 := ((hS.alloc hB (.cells #[.int .i64 d, .int .i64 f, .slice A n c] 26)).alloc (by simp; omega) (.cells #[.int .i64 G, .int .i64 L, .int .i64 T] 35)).alloc (by simp; omega) (.cells #[.int .i64 S, .int .i64 C, .int .i64 F, .int .i64 P] 29)
  have hka := blk_alloc (blk_alloc (blk_new w (.cells #[.int .i64 d, .int .i64 f, .slice A n c] 26)) (.cells #[.int .i64 G, .int .i64 L, .int .i64 T] 35)) (.cells #[.int .i64 S, .int .i64 C, .int .i64 F, .int .i64 P] 29)
  have hkb := blk_new_at ((w.alloc (.cells #[.int .i64 d, .int .i64 f, .slice A n c] 26)).alloc (.cells #[.int .i64 G, .int .i64 L, .int .i64 T] 35)) (.cells #[.int .i64 S, .int .i64 C, .int .i64 F, .int .i64 P] 29) (k := w.heap.size + 1 + 1) (by simp)
  have hadd := fun (W : World) (h : Strs W B A n ss) (hb : B ≤ W.heap.size) => i_AddBox d f B A n c ss G L T W h hb
  have hok := boxRes_ok 100 d f ss G L T 16777216 (by omega) hS.sb
  have hex : extraOf d f ss G L T S C F P = if (boxRes 100 d f ss G L T).2 && ratesOk S C F P then costOf d f (boxRes 100 d f ss G L T).1 S C F P - costOf d f ss S C F P else 0 := rfl
  generalize hts : (boxRes 100 d f ss G L T).1 = ts at *
  generalize hbo : (boxRes 100 d f ss G L T).2 = ok at *
  have HADD := hide hadd
  clear hadd hts hbo
  cases ok
  · have HR : Hid (extraOf d f ss G L T S C F P = 0) := by unfold Hid; rw [hex]; rfl
    clear hex
    go_enter Try.func17, Try.ntmps17
    go_wp2_with (go_at_call 58; refine (unhide HADD _ hS2 (by first | omega | (simp; first | done | omega))).mono ?_; rintro e w1 ⟨A1, c1, rfl, ho1, hb1⟩; obtain ⟨hcb1, hfb1⟩ := bcell hb1; have hz_w1_0 : w.heap.size < w1.heap.size := (by have hzz := hb1.size; (try simp at hzz); omega); have hy_w1_0 := Nat.le_of_lt hz_w1_0; have hz_w1_1 : w.heap.size + 1 < w1.heap.size := (by have hzz := hb1.size; (try simp at hzz); omega); have hy_w1_1 := Nat.le_of_lt hz_w1_1; have hz_w1_2 : w.heap.size + 1 + 1 < w1.heap.size := (by have hzz := hb1.size; (try simp at hzz); omega); have hy_w1_2 := Nat.le_of_lt hz_w1_2)
    go_ret
    exact ⟨ret_int HR.out.symm, bel⟩
  · cases hrt : ratesOk S C F P
    · have HR : Hid (extraOf d f ss G L T S C F P = 0) := by unfold Hid; rw [hex, hrt]; rfl
      have HRT := Lib.hid hrt
      clear hex hrt
      go_enter Try.func17, Try.ntmps17
      go_wp2_with (first | (go_at_call 58; refine (unhide HADD _ hS2 (by first | omega | (simp; first | done | omega))).mono ?_; rintro e w1 ⟨A1, c1, rfl, ho1, hb1⟩; obtain ⟨hcb1, hfb1⟩ := bcell hb1; have hz_w1_0 : w.heap.size < w1.heap.size := (by have hzz := hb1.size; (try simp at hzz); omega); have hy_w1_0 := Nat.le_of_lt hz_w1_0; have hz_w1_1 : w.heap.size + 1 < w1.heap.size := (by have hzz := hb1.size; (try simp at hzz); omega); have hy_w1_1 := Nat.le_of_lt hz_w1_1; have hz_w1_2 : w.heap.size + 1 + 1 < w1.heap.size := (by have hzz := hb1.size; (try simp at hzz); omega); have hy_w1_2 := Nat.le_of_lt hz_w1_2) | (go_at_call 24; refine (i_RatesOk S C F P _).mono ?_; rw [HRT.out]; rintro e w2 ⟨rfl, hb2⟩; (have hk0 := blk_next (blk_alloc (blk_next hka hb1) _) hb2); (have hk2 := blk_next (blk_alloc (blk_next hkb hb1) _) hb2); (have hk7 := blk_next (blk_new w1 _) hb2); (have ho2 := own_below (ho1.alloc _) hb2); obtain ⟨hx0, hx1, hx2, hxl⟩ := blk3 hk0; obtain ⟨hy0, hy1, hy2, hy3, hyl⟩ := blk4 hk2; obtain ⟨hz0, hz1, hz2, hzl⟩ := blk3 hk7; (have hbw2 : Below w.heap.size w w2 := bel)))
      go_ret
      exact ⟨ret_int HR.out.symm, hbw2⟩
    · have HR : Hid (extraOf d f ss G L T S C F P = costOf d f ts S C F P - costOf d f ss S C F P) := by unfold Hid; rw [hex, hrt]; rfl
      have HRT := Lib.hid hrt
      have b1 := costOf_bd d f ts S C F P hok.2
      have b2 := costOf_bd d f ss S C F P hS.sb
      have hw1 : IntKind.i64.wrap (costOf d f ts S C F P - costOf d f ss S C F P) = costOf d f ts S C F P - costOf d f ss S C F P := by rw [IntKind.wrap_i64]; omega
      clear hex hrt b1 b2
      go_enter Try.func17, Try.ntmps17
      go_wp2_with (first | (go_at_call 58; refine (unhide HADD _ hS2 (by first | omega | (simp; first | done | omega))).mono ?_; rintro e w1 ⟨A1, c1, rfl, ho1, hb1⟩; obtain ⟨hcb1, hfb1⟩ := bcell hb1; have hz_w1_0 : w.heap.size < w1.heap.size := (by have hzz := hb1.size; (try simp at hzz); omega); have hy_w1_0 := Nat.le_of_lt hz_w1_0; have hz_w1_1 : w.heap.size + 1 < w1.heap.size := (by have hzz := hb1.size; (try simp at hzz); omega); have hy_w1_1 := Nat.le_of_lt hz_w1_1; have hz_w1_2 : w.heap.size + 1 + 1 < w1.heap.size := (by have hzz := hb1.size; (try simp at hzz); omega); have hy_w1_2 := Nat.le_of_lt hz_w1_2) | (go_at_call 24; refine (i_RatesOk S C F P _).mono ?_; rw [HRT.out]; rintro e w2 ⟨rfl, hb2⟩; (have hk0 := blk_next (blk_alloc (blk_next hka hb1) _) hb2); (have hk2 := blk_next (blk_alloc (blk_next hkb hb1) _) hb2); (have hk7 := blk_next (blk_new w1 _) hb2); (have ho2 := own_below (ho1.alloc _) hb2); obtain ⟨hx0, hx1, hx2, hxl⟩ := blk3 hk0; obtain ⟨hy0, hy1, hy2, hy3, hyl⟩ := blk4 hk2; obtain ⟨hz0, hz1, hz2, hzl⟩ := blk3 hk7; (have hbw2 : Below w.heap.size w w2 := bel)))
      have hTs : Strs w2 w2.heap.size A1 ts.length ts := strs_of_own ho2 (by have := hok.1; omega) hok.2
      have hBw : B ≤ w2.heap.size := Nat.le_trans hB hbw2.size
      have hSw := hS.below (hbw2.mono hB)
      have hzw := hbw2.size
      go_region_held3 (fun W => (∀ b o, b < w2.heap.size → W.cell? ⟨b, o, none⟩ = (w2).cell? ⟨b, o, none⟩) ∧ (∀ b o, b < w2.heap.size → W.frozen? ⟨b, o, none⟩ = (w2).frozen? ⟨b, o, none⟩) ∧ Below (w2.heap.size) (w2) W) (exact keep_of bel) (first | (go_at_call_of 13 (Value.agg #[.int .i64 d, .int .i64 f, .slice A1 ts.length c1]); have hq := (‹_ ∧ _ ∧ Below _ _ _›).2.2; refine (i_CostOf d f S C F P w2.heap.size A1 ts.length c1 ts _ ?_ ?_).mono ?_; exact hTs.below hq; exact hq.size; rintro e w3 ⟨rfl, hb3⟩; have hqs3 := hq.size; have hbs3 := hb3.size; (try simp at hqs3); (try simp at hbs3)) | (go_at_call_of 13 (Value.agg #[.int .i64 d, .int .i64 f, .slice A n c]); have hq := (‹_ ∧ _ ∧ Below _ _ _›).2.2; refine (i_CostOf d f S C F P B A n c ss _ ?_ ?_).mono ?_; exact hSw.below (hq.mono hBw); exact Nat.le_trans hBw hq.size; rintro e w4 ⟨rfl, hb4⟩; have hqs4 := hq.size; have hbs4 := hb4.size; (try simp at hqs4); (try simp at hbs4)))
      all_goals (
        go_wp2
        go_ret
        exact ⟨ret_int HR.out.symm, hbw2.trans (Below.mono (by first | exact bel) hzw)⟩)
end Go.Proofs.Yteffbjddgdjkmaa
