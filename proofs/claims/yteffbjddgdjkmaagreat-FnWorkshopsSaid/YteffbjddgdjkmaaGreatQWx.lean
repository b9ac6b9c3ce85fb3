/- Contracts of the program's and the reference's functions (Draw14). -/
import Derived.Test.YteffbjddgdjkmaaGreatRows
import Derived.Test.YteffbjddgdjkmaaGreatQWw
import Derived.Test.YteffbjddgdjkmaaGreatQWu
namespace Go.Proofs.YteffbjddgdjkmaaGreat
open Go.ChangeShapes Go.WideShapes Go.ChangeAt Go.RowKit
set_option linter.unusedVariables false
set_option linter.unusedSimpArgs false
set_option maxRecDepth 10000
set_option maxHeartbeats 3200000 in
theorem s_DrawWorkshop (B : Nat) (A : Option Addr) (c : Nat) (bs : List Int) (w : World) (hK : Code w B A bs) (hB : B ≤ w.heap.size) :
    Calls Tryz.prog 13 #[.slice A bs.length c] w fun e w' => ∃ (d1 f1 : Int) (ss1 : List ByteArray) (d2 f2 : Int) (ss2 : List ByteArray) (st : List PStep) (P : List PItem) (pp : List PPaper) (m : Int) (A1 : Option Addr) (c1 : Nat) (A2 : Option Addr) (c2 : Nat) (A3 : Option Addr) (c3 : Nat) (A4 : Option Addr) (c4 : Nat) (A5 : Option Addr) (c5 : Nat), DrewW ⟨⟨d1, f1, ss1, d2, f2, ss2, st⟩, P, pp, m⟩ 2 2 ∧ e = .returned (.agg #[.int .i64 d1, .int .i64 f1, .slice A1 ss1.length c1, .int .i64 d2, .int .i64 f2, .slice A2 ss2.length c2, .slice A3 st.length c3, .slice A4 P.length c4, .slice A5 pp.length c5, .int .i64 m]) ∧ OwnW w' w.heap.size w'.heap.size A1 c1 A2 c2 A3 c3 A4 c4 A5 c5 ⟨d1, f1, ss1, d2, f2, ss2, st⟩ P pp ∧ Below w.heap.size w w' := by
  go_enter Tryz.func13, Tryz.ntmps13
  go_wp2_with fail
  have hkr0 := blk_new w (.cells #[.int .i64 0, .int .i64 0, .slice none 0 0, .int .i64 0, .int .i64 0, .slice none 0 0, .slice none 0 0, .slice none 0 0, .slice none 0 0, .int .i64 0] 33)
  have hb0 : Below w.heap.size w (w.alloc (.cells #[.int .i64 0, .int .i64 0, .slice none 0 0, .int .i64 0, .int .i64 0, .slice none 0 0, .slice none 0 0, .slice none 0 0, .slice none 0 0, .int .i64 0] 33)) := bel
  have hs0 : (w.alloc (.cells #[.int .i64 0, .int .i64 0, .slice none 0 0, .int .i64 0, .int .i64 0, .slice none 0 0, .slice none 0 0, .slice none 0 0, .slice none 0 0, .int .i64 0] 33)).heap.size = w.heap.size + 1 := by simp
  generalize w.alloc (.cells #[.int .i64 0, .int .i64 0, .slice none 0 0, .int .i64 0, .int .i64 0, .slice none 0 0, .slice none 0 0, .slice none 0 0, .slice none 0 0, .int .i64 0] 33) = w0 at *
  refine (s_l01New B A c bs w0 (hK.below (hb0.mono hB)) (by omega)).mono ?_
  rintro e w1 ⟨rfl, C1, hb1⟩
  have k_r1 := blk_next hkr0 hb1
  have hbw1 : Below w.heap.size w w1 := hb0.trans (hb1.mono (by omega))
  have hs1 := hb1.size
  obtain ⟨g, hg⟩ : ∃ x, x = w0.heap.size := ⟨_, rfl⟩
  rw [← hg] at C1 ⊢
  obtain ⟨br, hbr⟩ : ∃ x, x = w.heap.size := ⟨_, rfl⟩
  rw [← hbr] at k_r1 ⊢
  have hrg : br < g := by omega
  have hwr : w.heap.size ≤ br := by omega
  have hs2 : w.heap.size ≤ w1.heap.size := hbw1.size
  clear hkr0 hb0 hb1 hg hbr hs0 hs1
  go_wp2_with fail
  refine (s_l38Workshop g B A c bs w1 C1).mono ?_
  rintro e w2 ⟨d1, f1, ss1, d2, f2, ss2, st, P, pp, m, A1, c1, A2, c2, A3, c3, A4, c4, A5, c5, HW, rfl, o_W, C2, g2⟩
  have HWH := hide HW
  clear HW
  have k_r2 := C1.blk_keep k_r1 (show br ≠ g by omega) g2
  have hbw2 : Below w.heap.size w w2 := hbw1.trans (grown_below g2 (fun k hk => by injection hk with hk; omega) hs2)
  clear C1 k_r1 g2 hbw1
  obtain ⟨q0, q1, q2, q3, q4, q5, q6, q7, q8, q9, ql⟩ := blk10 k_r2
  obtain ⟨⟨t0, t1, t2, t3, t4⟩, t5, t6, t7, t8, t9⟩ := blk10f k_r2
  go_wp2
  refine bodyPost_ret (v := .agg #[.int .i64 d1, .int .i64 f1, .slice A1 ss1.length c1, .int .i64 d2, .int .i64 f2, .slice A2 ss2.length c2, .slice A3 st.length c3, .slice A4 P.length c4, .slice A5 pp.length c5, .int .i64 m]) (by simp [results, Tryz.results13, go_sem, *]) rfl ?_
  exact ⟨_, _, _, _, _, _, _, _, _, _, A1, c1, A2, c2, A3, c3, A4, c4, A5, c5, unhide HWH, rfl, own10 o_W (boxAt_of k_r2) hs2 (Nat.le_refl _) _ _ _ _ _ _ _ _ _ _, hbw2.trans (below10 hwr _ _ _ _ _ _ _ _ _ _)⟩
end Go.Proofs.YteffbjddgdjkmaaGreat
