/- FnExactParseAct: the walk. -/
import Derived.Test.YtlimlolciekimaaDoorTxt5
namespace Go.Proofs.YtlimlolciekimaaDoor.fnExactParseAct
open Go.ChangeShapes Go.WideShapes Go.ChangeAt Go.RowKit
set_option linter.unusedVariables false
set_option linter.unusedSimpArgs false
set_option maxRecDepth 10000

set_option maxHeartbeats 1600000 in
theorem eqAct_same (k a b : Int) (w : World) : Calls Tryd.prog 6 #[.agg #[.int .i64 k, .int .i64 a, .int .i64 b], .agg #[.int .i64 k, .int .i64 a, .int .i64 b]] w fun e w' => e = .returned (.bool true) ∧ Below w.heap.size w w' := by
  go_enter Tryd.func6, Tryd.ntmps6
  go_wp2
  go_ret
  exact ⟨rfl, bel⟩
set_option maxHeartbeats 1600000 in
theorem walkParseAct (s : ByteArray) (w : World) (hE : Errs w) (hs : s.size ≤ 9223372036854775807) :
    Calls Tryd.prog 3 #[.string s] w fun e w' => e = .returned (.bool true) ∧ Below w.heap.size w w' := by
  by_cases hz : 1048576 < s.size
  · have hd : decide ((s.size : Int) > 1048576) = true := by simp; omega
    go_enter Tryd.func3, Tryd.ntmps3
    go_wp2
    go_ret
    exact ⟨rfl, Below.refl _ _⟩
  · go_enter Tryd.func3, Tryd.ntmps3
    go_wp2_with fail
    refine (s_ParseAct s w (by omega)).mono ?_
    obtain ⟨r, hr⟩ : ∃ r, lineP s = r := ⟨_, rfl⟩
    have HR := Lib.hid hr
    rw [hr]
    clear hr
    obtain ⟨⟨k, a, b⟩, ok⟩ := r
    simp only [actV]
    rintro e w1 ⟨rfl, hb1⟩
    go_wp2_with fail
    have kx := blk_new w1 (.cells #[.int .i64 (k : Int), .int .i64 (a : Int), .int .i64 (b : Int)] 23)
    have hb2 : Below w.heap.size w (w1.alloc (.cells #[.int .i64 (k : Int), .int .i64 (a : Int), .int .i64 (b : Int)] 23)) := hb1.alloc hb1.size _
    generalize (w1.alloc (.cells #[.int .i64 (k : Int), .int .i64 (a : Int), .int .i64 (b : Int)] 23)) = w2 at *
    refine (i_ParseAct s w2 (hE.below hb2) (by omega)).mono ?_
    rw [HR.out]
    simp only [actV]
    rintro e w3 ⟨rfl, hb3⟩
    have kx3 := blk_next kx hb3
    have hb3' : Below w.heap.size w w3 := hb2.trans (hb3.mono hb2.size)
    obtain ⟨x0, x1, x2, xl⟩ := blk3 kx3
    go_wp2_with fail
    have hb3a : Below w.heap.size w (w3.alloc (.cells #[.int .i64 (k : Int), .int .i64 (a : Int), .int .i64 (b : Int)] 23)) := hb3'.alloc hb3'.size _
    refine (eqAct_same k a b _).mono ?_
    rintro e w4 ⟨rfl, hb4⟩
    go_wp2
    go_ret
    exact ⟨rfl, hb3a.trans (hb4.mono hb3a.size)⟩
end Go.Proofs.YtlimlolciekimaaDoor.fnExactParseAct
