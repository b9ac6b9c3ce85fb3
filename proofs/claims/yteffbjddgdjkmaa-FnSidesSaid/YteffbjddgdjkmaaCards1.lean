/- HighStrip of the reference, FlatStrip and PlainCard of the program, DrawCard. -/
import Derived.Test.YteffbjddgdjkmaaDraw3
import Derived.Test.YteffbjddgdjkmaaMem3
import Derived.Test.YteffbjddgdjkmaaLawKit2
import Derived.Test.YteffbjddgdjkmaaUCard
import Derived.Deep.RegionLaw
import Derived.Test.YteffbjddgdjkmaaShelfR
import Derived.Shelf.Strings.Repeat
namespace Go.Proofs.Yteffbjddgdjkmaa
open Go.ChangeShapes Go.WideShapes Go.ChangeAt Go.RowKit
set_option linter.unusedVariables false
set_option maxRecDepth 10000

theorem drew_high (d f : Nat) : Drew d f (⟨(List.replicate f 102).toArray⟩ ++ ⟨(List.replicate d 100).toArray⟩) := by
  have h1 : Drew d 0 ⟨(List.replicate d 100).toArray⟩ := ⟨by show cnt 100 (List.replicate d 100) = d; exact drew_rep _ _, by show cnt 102 (List.replicate d 100) = 0; unfold cnt; rw [List.count_replicate]; simp, by show (List.replicate d (100 : UInt8)).toArray.size = d; simp⟩
  have h2 : Drew 0 f ⟨(List.replicate f 102).toArray⟩ := ⟨by show cnt 100 (List.replicate f 102) = 0; unfold cnt; rw [List.count_replicate]; simp, by show cnt 102 (List.replicate f 102) = f; exact drew_rep _ _, by show (List.replicate f (102 : UInt8)).toArray.size = 0 + f; simp⟩
  have h := h2.app h1
  simpa using h
set_option maxHeartbeats 800000 in
theorem s_HighStrip (d f : Nat) (w : World) (h1 : 1 ≤ d) (h2 : d ≤ 8) (h3 : 1 ≤ f) (h4 : f ≤ 8) :
    Calls Try.prog 66 #[.int .i64 d, .int .i64 f] w fun e w' => ∃ s, e = .returned (.string s) ∧ Drew d f s ∧ w = w' := by
  have hsz : ¬ 9223372036854775807 < (⟨(List.replicate f 102).toArray⟩ : ByteArray).size + (⟨(List.replicate d 100).toArray⟩ : ByteArray).size := by
    show ¬ _ < (List.replicate f (102 : UInt8)).toArray.size + (List.replicate d (100 : UInt8)).toArray.size; simp; omega
  have hfl := drew_high d f
  simp only [List.toArray_replicate] at hfl
  have hs1 : isStepsB (d : Int) = true := by simp [isStepsB, inB]; omega
  have hs2 : isStepsB (f : Int) = true := by simp [isStepsB, inB]; omega
  have HFL := hide hfl
  clear hfl
  go_enter Try.func66, Try.ntmps66
  go_wp2_with (first | (go_at_call 130; refine (s_l02Frame _ _ _).mono ?_; rintro e w' ⟨rfl, rfl⟩) | (go_at_call_of 131 (Value.string ⟨#[102]⟩); refine (s_l02Many 102 f _ h4).mono ?_; rintro e w' ⟨rfl, rfl⟩) | (go_at_call_of 131 (Value.string ⟨#[100]⟩); refine (s_l02Many 100 d _ h2).mono ?_; rintro e w' ⟨rfl, rfl⟩))
  go_ret
  exact ⟨_, rfl, unhide HFL, rfl⟩
/-- the strip of a frame that lies lowest -/
def flatT (d f : Nat) : ByteArray := ⟨(List.replicate d 100).toArray⟩ ++ ⟨(List.replicate f 102).toArray⟩
theorem repeat_one (x : UInt8) (n : Nat) : Lib.repeatL [x] n = List.replicate n x := by
  induction n with
  | zero => rfl
  | succ n ih => show [x] ++ Lib.repeatL [x] n = _; rw [ih]; rfl
set_option maxHeartbeats 800000 in
theorem i_FlatStrip (d f : Nat) (w : World) (h1 : 1 ≤ d) (h2 : d ≤ 8) (h3 : 1 ≤ f) (h4 : f ≤ 8) :
    Calls Try.prog 118 #[.int .i64 d, .int .i64 f] w fun e w' => e = .returned (.string (flatT d f)) ∧ Below w.heap.size w w' := by
  have hs1 : isStepsB (d : Int) = true := by simp [isStepsB, inB]; omega
  have hs2 : isStepsB (f : Int) = true := by simp [isStepsB, inB]; omega
  have r1 : ∀ W : World, Calls Try.prog 170 #[.string ⟨#[100]⟩, .int .i64 d] W fun e w' => e = .returned (.string ⟨(List.replicate d 100).toArray⟩) ∧ Below W.heap.size W w' := fun W => by
    have h := Try.strings_Repeat ⟨#[100]⟩ d W (by omega) (by show 1 * d ≤ _; omega)
    rw [show (⟨#[100]⟩ : ByteArray).data.toList = [100] from rfl, repeat_one] at h
    exact h
  have r2 : ∀ W : World, Calls Try.prog 170 #[.string ⟨#[102]⟩, .int .i64 f] W fun e w' => e = .returned (.string ⟨(List.replicate f 102).toArray⟩) ∧ Below W.heap.size W w' := fun W => by
    have h := Try.strings_Repeat ⟨#[102]⟩ f W (by omega) (by show 1 * f ≤ _; omega)
    rw [show (⟨#[102]⟩ : ByteArray).data.toList = [102] from rfl, repeat_one] at h
    exact h
  obtain ⟨a, ha⟩ : ∃ a : ByteArray, ⟨(List.replicate d 100).toArray⟩ = a := ⟨_, rfl⟩
  obtain ⟨b, hb⟩ : ∃ b : ByteArray, ⟨(List.replicate f 102).toArray⟩ = b := ⟨_, rfl⟩
  have hov : ¬ 9223372036854775807 < a.size + b.size := by
    rw [← ha, ← hb]
    show ¬ _ < (List.replicate d (100 : UInt8)).toArray.size + (List.replicate f (102 : UInt8)).toArray.size; simp; omega
  have hab : Hid (flatT d f = a ++ b) := by unfold Hid flatT; rw [ha, hb]
  rw [ha] at r1
  rw [hb] at r2
  have R1 := hide r1
  have R2 := hide r2
  clear ha hb r1 r2
  go_enter Try.func118, Try.ntmps118
  go_wp2_with (first | (go_at_call 103; refine (i_isSteps _ _).mono ?_; rintro e w' ⟨rfl, rfl⟩) | (go_at_call_of 170 (Value.string ⟨#[100]⟩); refine (R1.out _).mono ?_; rintro e w1 ⟨rfl, hb1⟩) | (go_at_call_of 170 (Value.string ⟨#[102]⟩); refine (R2.out _).mono ?_; rintro e w2 ⟨rfl, hb2⟩))
  go_ret
  exact ⟨ret_str hab.out.symm, hb1.trans (hb2.mono hb1.size)⟩
set_option maxHeartbeats 800000 in
theorem s_DrawCard (B : Nat) (A : Option Addr) (c : Nat) (bs : List Int) (w : World) (hK : Code w B A bs) (hB : B ≤ w.heap.size) :
    Calls Try.prog 11 #[.slice A bs.length c] w fun e w' => ∃ (d f : Nat) (ss : List ByteArray) (A' : Option Addr) (c' : Nat), (1 ≤ d ∧ d ≤ 4 ∧ 1 ≤ f ∧ f ≤ 4 ∧ 1 ≤ ss.length ∧ ss.length ≤ 6) ∧ (∀ x ∈ ss, Drew d f x) ∧
    e = .returned (.agg #[.int .i64 d, .int .i64 f, .slice A' ss.length c']) ∧ OwnS w' w.heap.size w'.heap.size A' c' ss ∧ Below w.heap.size w w' := by
  go_enter Try.func11, Try.ntmps11
  go_wp2_with fail
  have hkr0 := blk_new w (.cells #[.int .i64 0, .int .i64 0, .slice none 0 0] 26)
  have hb0 : Below w.heap.size w (w.alloc (.cells #[.int .i64 0, .int .i64 0, .slice none 0 0] 26)) := bel
  have hs0 : w.heap.size < (w.alloc (.cells #[.int .i64 0, .int .i64 0, .slice none 0 0] 26)).heap.size := by simp
  generalize w.alloc (.cells #[.int .i64 0, .int .i64 0, .slice none 0 0] 26) = w0 at *
  refine (s_l01New B A c bs w0 (hK.below (hb0.mono hB)) (by omega)).mono ?_
  rintro e w1 ⟨rfl, hC1, hb1⟩
  have hkr1 := blk_next hkr0 hb1
  have hb1' : Below w.heap.size w w1 := hb0.trans (hb1.mono (by omega))
  have hs1 := hb1.size
  go_wp2_with fail
  refine (s_l05Card w0.heap.size B A c bs w1 hC1).mono ?_
  rintro e w2 ⟨d, f, ss, A', c', hbd, hss, rfl, ho2, hC2, hg2⟩
  have HSS := hide hss
  have HBD := hide hbd
  have hkr2 := hC1.blk_keep hkr1 (by omega) hg2
  have hb2 : Below w.heap.size w w2 := hb1'.trans (grown_below hg2 (fun k hk => by injection hk with hk; omega) (by omega))
  have hs2 := hb2.size
  clear hss hbd hkr0 hkr1 hb0 hb1
  obtain ⟨hx0, hx1, hx2, hxl⟩ := blk3 hkr2
  have hf0 := (blk_cells hkr2 0).2
  have hf1 := (blk_cells hkr2 1).2
  have hf2 := (blk_cells hkr2 2).2
  go_wp2
  refine bodyPost_ret (v := .agg #[.int .i64 d, .int .i64 f, .slice A' ss.length c']) (by simp [results, Try.results11, go_sem, *]) rfl ?_
  refine ⟨d, f, ss, A', c', HBD.out, HSS.out, rfl, ?_, ?_⟩
  · exact (ho2.box hkr2 (by decide) (by repeat (first | (with_reducible exact World.grownBy.refl _ _) | (with_reducible refine only_setCell ?_ (.inl rfl) _)))).wide (by omega) (by simp [World.setCell])
  · exact hb2.trans (by repeat (first | (with_reducible exact Below.refl _ _) | (refine Below.setCell ?_ (show w.heap.size ≤ w.heap.size from Nat.le_refl w.heap.size) _)))
end Go.Proofs.Yteffbjddgdjkmaa
