/- FnExactScriptText: the walk. -/
import Derived.Test.YtmnlinclbnbpoaaDoorScript1
import Derived.Test.YtmnlinclbnbpoaaDoorLawActs
namespace Go.Proofs.YtmnlinclbnbpoaaDoor.fnExactScriptText
open Go.ChangeShapes Go.WideShapes Go.ChangeAt Go.RowKit
set_option linter.unusedVariables false
set_option maxRecDepth 10000

theorem acts_own {w : World} {A : Option Addr} {c : Nat} {l : List PAct} {base : Nat} (h : w.ownsRow base 26 3 (.slice A l.length c) l.length (l.flatMap actCells)) (hn : l.length ≤ 16777216) : Acts w w.heap.size A l.length l := ⟨Reads.of_own h, hn⟩
set_option maxHeartbeats 1600000 in
theorem walkScriptText (l : List PAct) (A : Option Addr) (c : Nat) (w : World) (hR : Reads w w.heap.size 3 A l.length (l.flatMap actCells)) (hm : l.length ≤ 9223372036854775807) (ht : Tab w) :
    Calls Tryd.prog 4 #[.slice A l.length c] w fun e w' => e = .returned (.bool true) ∧ Below w.heap.size w w' := by
  by_cases hz : szActs l 1048576 < 0
  · go_enter Tryd.func4, Tryd.ntmps4
    go_wp2_with fail
    refine (l_szActS l A c 1048576 _ hm (by omega) (by omega)).mono ?_
    generalize szActs l 1048576 = z at *
    rintro e w1 ⟨rfl, hb1⟩
    go_wp2
    go_ret
    exact ⟨rfl, hb1⟩
  · obtain ⟨hS, hn⟩ := acts_of_sz hR (by omega) (show 0 ≤ szActs l 1048576 by omega)
    go_enter Tryd.func4, Tryd.ntmps4
    go_wp2_with fail
    refine (l_szActS l A c 1048576 _ hm (by omega) (by omega)).mono ?_
    generalize szActs l 1048576 = z at *
    rintro e w1 ⟨rfl, hb1⟩
    go_wp2_with fail
    refine (l_toActS w.heap.size A l.length c l w1 (hS.below hb1) hb1.size).mono ?_
    rintro e w2 ⟨A2, c2, rfl, ho2, hb2⟩
    have hb2' : Below w.heap.size w w2 := hb1.trans (hb2.mono hb1.size)
    go_wp2_with fail
    refine (s_ScriptText w2.heap.size A2 l.length c2 l w2 (acts_own ho2 (by omega)) (Nat.le_refl _)).mono ?_
    rintro e w3 ⟨rfl, hb3⟩
    have hb3' : Below w.heap.size w w3 := hb2'.trans (hb3.mono hb2'.size)
    go_wp2_with fail
    refine (l_toActS w.heap.size A l.length c l w3 (hS.below hb3') hb3'.size).mono ?_
    rintro e w4 ⟨A4, c4, rfl, ho4, hb4⟩
    have hS4 := acts_own ho4 (by omega)
    have hb4' : Below w.heap.size w w4 := hb3'.trans (hb4.mono hb3'.size)
    go_wp2_with fail
    refine (i_ScriptText w4.heap.size A4 l.length c4 l w4 hS4 (Nat.le_refl _) (ht.below hb4')).mono ?_
    rintro e w5 ⟨rfl, hb5⟩
    have hb5' : Below w.heap.size w w5 := hb4'.trans (hb5.mono hb4'.size)
    have hS5 := hS4.below hb5
    have hz5 := hb5.size
    go_wp2_with fail
    refine (l_toActS w.heap.size A l.length c l w5 (hS.below hb5') hb5'.size).mono ?_
    rintro e w6 ⟨A6, c6, rfl, ho6, hb6⟩
    have hS6 := acts_own ho6 (by omega)
    have hb6' : Below w.heap.size w w6 := hb5'.trans (hb6.mono hb5'.size)
    go_wp2_with fail
    refine (l_eqActS_same w6.heap.size A4 A6 l.length c4 c6 l w6 ((hS5.below (hb6.mono hz5)).more (by have := hb6.size; omega)) hS6 (Nat.le_refl _)).mono ?_
    rintro e w7 ⟨rfl, hb7⟩
    go_wp2
    go_ret
    exact ⟨rfl, hb6'.trans (hb7.mono hb6'.size)⟩
end Go.Proofs.YtmnlinclbnbpoaaDoor.fnExactScriptText
