/- What is drawn of a law's bytes: DrawCard, DrawCopy. -/
import Derived.Test.YtdddglihomchfaaDraw4
import Derived.Test.YtdddglihomchfaaWear3
namespace Go.Proofs.Ytdddglihomchfaa
open Go.ChangeShapes Go.WideShapes Go.ChangeAt Go.RowKit
set_option linter.unusedVariables false
set_option maxRecDepth 10000

theorem below_of_drawn {w w1 w2 : World} (h1 : Below w.heap.size w w1) (h2 : w1.grownBy w2 (some w.heap.size)) : Below w.heap.size w w2 :=
  h1.trans (grown_below h2 (fun k hk => by injection hk with hk; omega) h1.size)
set_option maxHeartbeats 800000 in
theorem s_DrawCopy (B : Nat) (A : Option Addr) (c : Nat) (bs : List Int) (w : World) (hK : Code w B A bs) (hB : B ≤ w.heap.size) :
    Calls Try.prog 23 #[.slice A bs.length c] w fun e w' => ∃ (d f : Nat) (ss : List ByteArray) (A' : Option Addr) (c' : Nat) (K X H O : Int), (1 ≤ d ∧ d ≤ 4 ∧ 1 ≤ f ∧ f ≤ 4 ∧ 1 ≤ ss.length ∧ ss.length ≤ 6) ∧ (∀ x ∈ ss, Drew d f x) ∧ PaperIn K X H ∧ (0 ≤ O ∧ O < 120) ∧
    e = .returned (.agg #[.int .i64 d, .int .i64 f, .slice A' ss.length c', .int .i64 K, .int .i64 X, .int .i64 H, .int .i64 O]) ∧ OwnS w' w.heap.size w'.heap.size A' c' ss ∧ Below w.heap.size w w' := by
  go_enter Try.func23, Try.ntmps23
  go_wp2_with fail
  have hkr0 := blk_new w (.cells #[.int .i64 0, .int .i64 0, .slice none 0 0, .int .i64 0, .int .i64 0, .int .i64 0, .int .i64 0] 33)
  have hb0 : Below w.heap.size w (w.alloc (.cells #[.int .i64 0, .int .i64 0, .slice none 0 0, .int .i64 0, .int .i64 0, .int .i64 0, .int .i64 0] 33)) := bel
  have hs0 : w.heap.size < (w.alloc (.cells #[.int .i64 0, .int .i64 0, .slice none 0 0, .int .i64 0, .int .i64 0, .int .i64 0, .int .i64 0] 33)).heap.size := by simp
  generalize w.alloc (.cells #[.int .i64 0, .int .i64 0, .slice none 0 0, .int .i64 0, .int .i64 0, .int .i64 0, .int .i64 0] 33) = w0 at *
  refine (s_l01New B A c bs w0 (hK.below (hb0.mono hB)) (by omega)).mono ?_
  rintro e w1 ⟨rfl, hC1, hb1⟩
  have hkr1 := blk_next hkr0 hb1
  have hb1' : Below w.heap.size w w1 := hb0.trans (hb1.mono (by omega))
  have hs1 := hb1.size
  go_wp2_with fail
  refine (s_l26Draw w0.heap.size B A c bs w1 hC1).mono ?_
  rintro e w2 ⟨d, f, ss, A', c', K, X, H, O, hbd, hss, hP, hO, rfl, ho2, hC2, hg2⟩
  have HSS := hide hss
  have HBD := hide hbd
  have hkr2 := hC1.blk_keep hkr1 (by omega) hg2
  have hb2 : Below w.heap.size w w2 := hb1'.trans (grown_below hg2 (fun k hk => by injection hk with hk; omega) (by omega))
  have hs2 := hb2.size
  clear hss hbd hkr0 hkr1 hb0 hb1
  obtain ⟨hx0, hx1, hx2, hx3, hx4, hx5, hx6, hxl⟩ := blk7 hkr2
  obtain ⟨⟨hf0, hf1, hf2, hf3⟩, hf4, hf5, hf6⟩ := blk7f hkr2
  go_wp2
  refine bodyPost_ret (v := .agg #[.int .i64 d, .int .i64 f, .slice A' ss.length c', .int .i64 K, .int .i64 X, .int .i64 H, .int .i64 O]) (by simp [results, Try.results23, go_sem, *]) rfl ?_
  refine ⟨d, f, ss, A', c', K, X, H, O, HBD.out, HSS.out, hP, hO, rfl, ?_, ?_⟩
  · exact (ho2.box hkr2 (by decide) (by repeat (first | (with_reducible exact World.grownBy.refl _ _) | (with_reducible refine only_setCell ?_ (.inl rfl) _)))).wide (by omega) (by simp [World.setCell])
  · exact hb2.trans (by repeat (first | (with_reducible exact Below.refl _ _) | (refine Below.setCell ?_ (show w.heap.size ≤ w.heap.size from Nat.le_refl w.heap.size) _)))
end Go.Proofs.Ytdddglihomchfaa
