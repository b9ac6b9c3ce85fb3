/- The cheaper of two cards (the program). -/
import Derived.Test.YteffbjddgdjkmaaPriceP
import Derived.Test.YteffbjddgdjkmaaLawKit2
import Derived.Deep.RegionHeld3
namespace Go.Proofs.Yteffbjddgdjkmaa
open Go.ChangeShapes Go.WideShapes Go.ChangeAt Go.RowKit
set_option linter.unusedVariables false
set_option linter.unusedSimpArgs false
set_option maxRecDepth 10000

def cheapRes (v1 v2 : Int) : Int := if v1 < v2 then -1 else if v2 < v1 then 1 else 0
set_option maxHeartbeats 3200000 in
theorem i_CheaperCard (d f S C F P V1 V2 : Int) (B : Nat) (A1 A2 : Option Addr) (n1 c1 n2 c2 : Nat) (ss1 ss2 : List ByteArray) (w : World) (hS1 : Strs w B A1 n1 ss1) (hS2 : Strs w B A2 n2 ss2) (hB : B ≤ w.heap.size) (hv1 : costOf d f ss1 S C F P = V1) (hv2 : costOf d f ss2 S C F P = V2) (h1 : 0 ≤ V1) (h2 : 0 ≤ V2) :
    Calls Try.prog 22 #[.agg #[.int .i64 d, .int .i64 f, .slice A1 n1 c1], .agg #[.int .i64 d, .int .i64 f, .slice A2 n2 c2], .agg #[.int .i64 S, .int .i64 C, .int .i64 F, .int .i64 P]] w fun e w' => e = .returned (.int .i64 (cheapRes V1 V2)) ∧ Below w.heap.size w w' := by
  have k1 := fun (W : World) (h : Strs W B A1 n1 ss1) (hz : B ≤ W.heap.size) => i_CostOf d f S C F P B A1 n1 c1 ss1 W h hz
  have k2 := fun (W : World) (h : Strs W B A2 n2 ss2) (hz : B ≤ W.heap.size) => i_CostOf d f S C F P B A2 n2 c2 ss2 W h hz
  rw [hv1] at k1
  rw [hv2] at k2
  have K1 := hide k1
  have K2 := hide k2
  clear k1 k2 hv1 hv2
  have hka : (((w.alloc (.cells #[.int .i64 d, .int .i64 f, .slice A1 n1 c1] 26)).alloc (.cells #[.int .i64 d, .int .i64 f, .slice A2 n2 c2] 26)).alloc (.cells #[.int .i64 S, .int .i64 C, .int .i64 F, .int .i64 P] 29)).heap[w.heap.size]? = some (.cells #[.int .i64 d, .int .i64 f, .slice A1 n1 c1] 26 (0, 0)) := blk_alloc (blk_alloc (blk_new _ _) _) _
  have hkb : (((w.alloc (.cells #[.int .i64 d, .int .i64 f, .slice A1 n1 c1] 26)).alloc (.cells #[.int .i64 d, .int .i64 f, .slice A2 n2 c2] 26)).alloc (.cells #[.int .i64 S, .int .i64 C, .int .i64 F, .int .i64 P] 29)).heap[w.heap.size + 1]? = some (.cells #[.int .i64 d, .int .i64 f, .slice A2 n2 c2] 26 (0, 0)) := blk_alloc (blk_new_at _ _ (by simp)) _
  have hkc : (((w.alloc (.cells #[.int .i64 d, .int .i64 f, .slice A1 n1 c1] 26)).alloc (.cells #[.int .i64 d, .int .i64 f, .slice A2 n2 c2] 26)).alloc (.cells #[.int .i64 S, .int .i64 C, .int .i64 F, .int .i64 P] 29)).heap[w.heap.size + 1 + 1]? = some (.cells #[.int .i64 S, .int .i64 C, .int .i64 F, .int .i64 P] 29 (0, 0)) := blk_new_at _ _ (by simp)
  have hb0 : Below w.heap.size w (((w.alloc (.cells #[.int .i64 d, .int .i64 f, .slice A1 n1 c1] 26)).alloc (.cells #[.int .i64 d, .int .i64 f, .slice A2 n2 c2] 26)).alloc (.cells #[.int .i64 S, .int .i64 C, .int .i64 F, .int .i64 P] 29)) := bel
  have hz0 : w.heap.size + 1 + 1 < (((w.alloc (.cells #[.int .i64 d, .int .i64 f, .slice A1 n1 c1] 26)).alloc (.cells #[.int .i64 d, .int .i64 f, .slice A2 n2 c2] 26)).alloc (.cells #[.int .i64 S, .int .i64 C, .int .i64 F, .int .i64 P] 29)).heap.size := by simp
  obtain ⟨R, hR⟩ : ∃ R, cheapRes V1 V2 = R := ⟨_, rfl⟩
  have HR := Lib.hid hR
  rw [hR]
  have hcs : (V1 < V2 ∧ R = -1) ∨ (¬ V1 < V2 ∧ V2 < V1 ∧ R = 1) ∨ (¬ V1 < V2 ∧ ¬ V2 < V1 ∧ R = 0) := by
    rw [← hR]
    unfold cheapRes
    split
    · exact .inl ⟨by omega, rfl⟩
    · split
      · exact .inr (.inl ⟨by omega, by omega, rfl⟩)
      · exact .inr (.inr ⟨by omega, by omega, rfl⟩)
  clear hR HR
  have hn1 : ¬ V1 < 0 := by omega
  have hn2 : ¬ V2 < 0 := by omega
  go_enter Try.func22, Try.ntmps22
  go_wp2
  generalize (((w.alloc (.cells #[.int .i64 d, .int .i64 f, .slice A1 n1 c1] 26)).alloc (.cells #[.int .i64 d, .int .i64 f, .slice A2 n2 c2] 26)).alloc (.cells #[.int .i64 S, .int .i64 C, .int .i64 F, .int .i64 P] 29)) = w0 at *
  obtain ⟨ha0, ha1, ha2, hal⟩ := blk3 hka
  obtain ⟨he0, he1, he2, hel⟩ := blk3 hkb
  obtain ⟨hr0, hr1, hr2, hr3, hrl⟩ := blk4 hkc
  have hT1 := hS1.below (hb0.mono hB)
  have hT2 := hS2.below (hb0.mono hB)
  have hB0 : B ≤ w0.heap.size := by omega
  rcases hcs with ⟨q1, rfl⟩ | ⟨q1, q2, rfl⟩ | ⟨q1, q2, rfl⟩
  all_goals
    go_region_held3 (fun W => (∀ b o, b < w0.heap.size → W.cell? ⟨b, o, none⟩ = (w0).cell? ⟨b, o, none⟩) ∧ (∀ b o, b < w0.heap.size → W.frozen? ⟨b, o, none⟩ = (w0).frozen? ⟨b, o, none⟩) ∧ Below (w0.heap.size) (w0) W) (exact keep_of bel) (first | (go_at_call_of 13 (Value.agg #[.int .i64 d, .int .i64 f, .slice A1 n1 c1]); have hq := (‹_ ∧ _ ∧ Below _ _ _›).2.2; refine (K1.out _ ?_ ?_).mono ?_; exact hT1.below (hq.mono hB0); exact Nat.le_trans hB0 hq.size; rintro e wa ⟨rfl, hba⟩; have hqs := hq.size; have hbs := hba.size; (try simp at hqs); (try simp at hbs)) | (go_at_call_of 13 (Value.agg #[.int .i64 d, .int .i64 f, .slice A2 n2 c2]); have hq := (‹_ ∧ _ ∧ Below _ _ _›).2.2; refine (K2.out _ ?_ ?_).mono ?_; exact hT2.below (hq.mono hB0); exact Nat.le_trans hB0 hq.size; rintro e wb ⟨rfl, hbb⟩; have hqs := hq.size; have hbs := hbb.size; (try simp at hqs); (try simp at hbs)))
  all_goals
    go_wp2
    go_ret
    exact ⟨rfl, hb0.trans (Below.mono (by first | exact bel) hb0.size)⟩
end Go.Proofs.Yteffbjddgdjkmaa
