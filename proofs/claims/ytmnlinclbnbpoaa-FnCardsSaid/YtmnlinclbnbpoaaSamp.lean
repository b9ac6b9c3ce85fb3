/- SampleCard of the program (out of Sample1). -/
import Derived.Test.YtmnlinclbnbpoaaFrame
import Derived.Test.YtmnlinclbnbpoaaUCard
namespace Go.Proofs.Ytmnlinclbnbpoaa
open Go.ChangeShapes Go.WideShapes Go.ChangeAt Go.RowKit
set_option linter.unusedVariables false
set_option linter.unusedSimpArgs false
set_option maxRecDepth 10000

def sampleSS : List ByteArray := [⟨#[100, 100, 100, 102, 102, 102, 102]⟩, ⟨#[100, 102, 100, 102, 102, 100, 102]⟩, ⟨#[100, 102, 100, 102, 102, 100, 102]⟩, ⟨#[102, 102, 100, 100, 102, 102, 100]⟩, ⟨#[100, 100, 100, 102, 102, 102, 102]⟩]
theorem sample_ok : OkS sampleSS 1048576 := ⟨by decide, fun s hs => by
  simp [sampleSS] at hs
  rcases hs with rfl | rfl | rfl | rfl <;> decide⟩
set_option maxHeartbeats 800000 in
theorem i_SampleCard (w : World) :
    Calls Try.prog 17 #[] w fun e w' => ∃ A c, e = .returned (.agg #[.int .i64 3, .int .i64 4, .slice A sampleSS.length c]) ∧ OwnS w' w.heap.size w'.heap.size A c sampleSS ∧ Below w.heap.size w w' := by
  go_enter Try.func17, Try.ntmps17
  go_wp2
  refine bodyPost_ret (v := .agg #[.int .i64 3, .int .i64 4, .slice (some ⟨w.heap.size + 1, 0, none⟩) 5 5]) (by simp [results, Try.results17, go_sem, *]) rfl ?_
  refine ⟨some ⟨w.heap.size + 1, 0, none⟩, 5, rfl, OwnS.of ?_ (Nat.le_refl _), bel⟩
  have h := World.ownsRow_lit (w.alloc (.cells #[.int .i64 3, .int .i64 4, .slice (some ⟨w.heap.size + 1, 0, none⟩) 5 5] 26)) (base := w.heap.size) (e := 9) (size := 1) #[.string ⟨#[100, 100, 100, 102, 102, 102, 102]⟩, .string ⟨#[100, 102, 100, 102, 102, 100, 102]⟩, .string ⟨#[100, 102, 100, 102, 102, 100, 102]⟩, .string ⟨#[102, 102, 100, 100, 102, 102, 100]⟩, .string ⟨#[100, 100, 100, 102, 102, 102, 102]⟩] 5 (by simp) (by unfold maxLen; omega) rfl
  have hz : (w.alloc (.cells #[.int .i64 3, .int .i64 4, .slice (some ⟨w.heap.size + 1, 0, none⟩) 5 5] 26)).heap.size = w.heap.size + 1 := by simp
  rw [hz] at h
  exact h
end Go.Proofs.Ytmnlinclbnbpoaa
