/- FnExactFormatAct: the walk. -/
import Derived.Test.YtmnlinclbnbpoaaDoorFmt2
namespace Go.Proofs.YtmnlinclbnbpoaaDoor.fnExactFormatAct
open Go.ChangeShapes Go.WideShapes Go.ChangeAt Go.RowKit
set_option linter.unusedVariables false
set_option maxRecDepth 10000

set_option maxHeartbeats 1600000 in
theorem walkFormatAct (k a b : Int) (w : World) (ht : Tab w) :
    Calls Tryd.prog 3 #[.agg #[.int .i64 k, .int .i64 a, .int .i64 b]] w fun e w' => e = .returned (.bool true) ∧ Below w.heap.size w w' := by
  go_enter Tryd.func3, Tryd.ntmps3
  go_wp2_with fail
  have hk0 := blk_new w (.cells #[.int .i64 k, .int .i64 a, .int .i64 b] 23)
  have hb0 : Below w.heap.size w (w.alloc (.cells #[.int .i64 k, .int .i64 a, .int .i64 b] 23)) := bel
  generalize (w.alloc (.cells #[.int .i64 k, .int .i64 a, .int .i64 b] 23)) = w0 at *
  refine (l_toAct k a b w0).mono ?_
  rintro e w1 ⟨rfl, hb1⟩
  have hk1 := blk_next hk0 hb1
  have hb1' : Below w.heap.size w w1 := hb0.trans (hb1.mono hb0.size)
  go_wp2_with fail
  refine (s_FormatAct k a b w1).mono ?_
  rintro e w2 ⟨rfl, hb2⟩
  have hk2 := blk_next hk1 hb2
  have hb2' : Below w.heap.size w w2 := hb1'.trans (hb2.mono hb1'.size)
  obtain ⟨hx0, hx1, hx2, hxl⟩ := blk3 hk2
  go_wp2_with fail
  clear hx0 hx1 hx2 hxl
  refine (l_toAct k a b w2).mono ?_
  rintro e w3 ⟨rfl, hb3⟩
  have hb3' : Below w.heap.size w w3 := hb2'.trans (hb3.mono hb2'.size)
  go_wp2_with fail
  refine (i_FormatAct k a b w3 (ht.below hb3')).mono ?_
  rintro e w4 ⟨rfl, hb4⟩
  have hb4' : Below w.heap.size w w4 := hb3'.trans (hb4.mono hb3'.size)
  go_wp2
  go_ret
  exact ⟨rfl, hb4'⟩
end Go.Proofs.YtmnlinclbnbpoaaDoor.fnExactFormatAct
