/- Cards as calls give them, to be read; IsSymmetric. -/
import Derived.Test.YteffbjddgdjkmaaTurn2
import Derived.Test.YteffbjddgdjkmaaRows1
namespace Go.Proofs.Yteffbjddgdjkmaa
open Go.ChangeShapes Go.WideShapes Go.ChangeAt Go.RowKit
set_option linter.unusedVariables false
set_option linter.unusedSimpArgs false
set_option maxRecDepth 10000

/-- a card as a call gives it, to be read -/
def GotC (n : Nat) (d f : Int) (xs : List ByteArray) (W : World) (e : Ending) (w' : World) : Prop :=
  ∃ A c, e = .returned (.agg #[.int .i64 d, .int .i64 f, .slice A n c]) ∧ Strs w' w'.heap.size A n xs ∧ Below W.heap.size W w'
theorem CardN.got {n : Nat} {d f : Int} {xs : List ByteArray} {W w' : World} {e : Ending} (h : CardN n d f (xs.map Value.string) W e w') (hl : xs.length = n) (hn : n ≤ 16777216) (hs : ∀ s ∈ xs, s.size ≤ 16777216) : GotC n d f xs W e w' := by
  obtain ⟨A, c, h1, h2, h3⟩ := h
  exact ⟨A, c, h1, reads_strs h2 hl hn hs, h3⟩
theorem i_MirrorN (d f : Int) (B : Nat) (A : Option Addr) (n c : Nat) (ss : List ByteArray) (W : World) (hS : Strs W B A n ss) (hB : B ≤ W.heap.size) (hc : cardOk d f ss = true) :
    Calls Try.prog 26 #[.agg #[.int .i64 d, .int .i64 f, .slice A n c]] W (GotC n d f ss.reverse W) := by
  have hmr : mirrorRes d f ss = (d, f, ss.reverse) := by unfold mirrorRes; rw [hc]; rfl
  have hl := hS.len
  have hb := (card_bounds hc).2.2
  have hn := hS.nb
  refine (i_MirrorCard d f B A n c ss W hS hB).mono ?_
  rw [hmr]
  rintro e w2 ⟨A2, c2, h1, h2, h3⟩
  simp only [List.length_reverse, hl] at h1 h2
  exact CardN.got ⟨A2, c2, h1, h2, h3⟩ (by rw [List.length_reverse]; exact hl) hn (fun s hs => by have := hb s (List.mem_reverse.1 hs); omega)
theorem i_TurnN (d f : Int) (B : Nat) (A : Option Addr) (n c : Nat) (ss : List ByteArray) (W : World) (hS : Strs W B A n ss) (hB : B ≤ W.heap.size) (hc : cardOk d f ss = true) :
    Calls Try.prog 25 #[.agg #[.int .i64 d, .int .i64 f, .slice A n c]] W (GotC n f d (ss.map turnB) W) := by
  have hb := (card_bounds (cardOk_turn hc)).2.2
  refine (i_TurnCard d f B A n c ss W hS hB hc).mono ?_
  intro e w2 h
  exact h.got (by rw [List.length_map]; exact hS.len) hS.nb (fun s hs => by have := hb s hs; omega)
theorem i_SymN (d f : Int) (B : Nat) (A : Option Addr) (n c : Nat) (ss : List ByteArray) (W : World) (hS : Strs W B A n ss) (hB : B ≤ W.heap.size) (hc : cardOk d f ss = true) :
    Calls Try.prog 27 #[.agg #[.int .i64 d, .int .i64 f, .slice A n c]] W (GotC n d f (symS ss) W) := by
  have hmr : symRes d f ss = (d, f, symS ss) := by unfold symRes; rw [hc]; rfl
  have hl := hS.len
  have hb := (card_bounds (symS_ok hc)).2.2
  have hn := hS.nb
  subst hl
  refine (i_SymmetrizeCard d f A c ss W (hS.more hB)).mono ?_
  rw [hmr]
  have hll : (symS ss).length = ss.length := by unfold symS; rw [zip_lenS _ _ List.length_reverse]
  rintro e w2 ⟨A2, c2, h1, h2, h3⟩
  simp only [hll] at h1
  have hr := h2.rd (show (symS ss).length ≤ 16777216 by omega) (fun s hs => by have := hb s hs; omega)
  simp only [hll] at hr
  exact ⟨A2, c2, h1, hr, h3⟩
set_option maxHeartbeats 3200000 in
theorem i_IsSymmetric (d f : Int) (B : Nat) (A : Option Addr) (n c : Nat) (ss : List ByteArray) (w : World) (hS : Strs w B A n ss) (hB : B ≤ w.heap.size) (hc : cardOk d f ss = true) :
    Calls Try.prog 33 #[.agg #[.int .i64 d, .int .i64 f, .slice A n c]] w fun e w' => e = .returned (.bool (decide (ss.reverse = ss))) ∧ Below w.heap.size w w' := by
  obtain ⟨b, hbq⟩ : ∃ b, decide (ss.reverse = ss) = b := ⟨_, rfl⟩
  have hsc : sameCard d f d f ss.reverse ss = b := by
    rw [← hbq]; unfold sameCard eqSS; simp
  rw [hbq]
  have kOk : ∀ W : World, Strs W W.heap.size A n ss → Calls Try.prog 80 #[.agg #[.int .i64 d, .int .i64 f, .slice A n c]] W fun e w' => e = .returned (.bool true) ∧ Below W.heap.size W w' := by
    intro W h
    have q := i_CardOk d f A n c ss W h
    rw [hc] at q
    exact q
  have kMir := fun (W : World) (h : Strs W W.heap.size A n ss) => i_MirrorN d f W.heap.size A n c ss W h (Nat.le_refl _) hc
  have kSame : ∀ (W : World) (A2 : Option Addr) (c2 : Nat), Strs W W.heap.size A2 n ss.reverse → Strs W W.heap.size A n ss → Calls Try.prog 32 #[.agg #[.int .i64 d, .int .i64 f, .slice A2 n c2], .agg #[.int .i64 d, .int .i64 f, .slice A n c]] W fun e w' => e = .returned (.bool b) ∧ Below W.heap.size W w' := by
    intro W A2 c2 h1 h2
    have q := i_SameCard d f d f W.heap.size A2 A n c2 n c ss.reverse ss W h1 h2 (Nat.le_refl _)
    rw [hsc] at q
    exact q
  have HOK := hide kOk
  have HMR := hide kMir
  have HSM := hide kSame
  clear kOk kMir kSame hsc hbq hc
  go_enter Try.func33, Try.ntmps33
  go_wp2_with fail
  have hkc := blk_new w (.cells #[.int .i64 d, .int .i64 f, .slice A n c] 26)
  have hb1 : Below w.heap.size w (w.alloc (.cells #[.int .i64 d, .int .i64 f, .slice A n c] 26)) := bel
  have hz1 : w.heap.size < (w.alloc (.cells #[.int .i64 d, .int .i64 f, .slice A n c] 26)).heap.size := by simp
  generalize (w.alloc (.cells #[.int .i64 d, .int .i64 f, .slice A n c] 26)) = w1 at *
  have hS1 := hS.below (hb1.mono hB)
  have hS1' := hS1.more (show B ≤ w1.heap.size by omega)
  obtain ⟨ha0, ha1, ha2, hal⟩ := blk3 hkc
  have tok1 : True := trivial
  go_region_held3 (fun W => (∀ p : Addr, p.block < w1.heap.size → W.cell? p = (w1).cell? p) ∧ (∀ p : Addr, p.block < w1.heap.size → W.frozen? p = (w1).frozen? p) ∧ Below (w1.heap.size) (w1) W) (exact keep_ofP bel) (first | (go_at_call 80; have hq := (‹_ ∧ _ ∧ Below _ _ _›).2.2; refine (HOK.out _ ?_).mono ?_; exact (hS1'.below hq).more hq.size; rintro e w2 ⟨rfl, hb2⟩; have hqs2 := hq.size; have hs2 := hb2.size; (try simp at hqs2); (try simp at hs2)) | (go_at_call 26; have hq := (‹_ ∧ _ ∧ Below _ _ _›).2.2; refine (HMR.out _ ?_).mono ?_; exact (hS1'.below hq).more hq.size; rintro e w3 ⟨A3, c3, rfl, S3, hb3⟩; have hqs3 := hq.size; have hs3 := hb3.size; (try simp at hqs3); (try simp at hs3)) | (go_at_call 32; have hq := (‹_ ∧ _ ∧ Below _ _ _›).2.2; refine (HSM.out _ A3 c3 ?_ ?_).mono ?_; exact S3; exact (hS1'.below hq).more hq.size; rintro e w4 ⟨rfl, hb4⟩; have hqs4 := hq.size; have hs4 := hb4.size; (try simp at hqs4); (try simp at hs4)))
  all_goals (go_wp2_with fail)
  all_goals (go_ret)
  all_goals (exact ⟨rfl, hb1.trans (Below.mono (‹_ ∧ _ ∧ Below _ _ _›).2.2 (by omega))⟩)
end Go.Proofs.Yteffbjddgdjkmaa
