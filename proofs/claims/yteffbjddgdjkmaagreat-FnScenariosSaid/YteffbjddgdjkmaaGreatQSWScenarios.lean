/- FnScenarios: the walk. -/
import Derived.Test.YteffbjddgdjkmaaGreatRows
import Derived.Test.YteffbjddgdjkmaaGreatQSw
import Derived.Test.YteffbjddgdjkmaaGreatQSr
import Derived.Test.YteffbjddgdjkmaaGreatQSu
namespace Go.Proofs.YteffbjddgdjkmaaGreat.fnScenarios
open Go.ChangeShapes Go.WideShapes Go.ChangeAt Go.RowKit
set_option linter.unusedVariables false
set_option linter.unusedSimpArgs false
set_option maxRecDepth 10000
set_option maxHeartbeats 6400000 in
theorem walkScenarios (A : Option Addr) (c : Nat) (bs : List Int) (w : World) (hK : Code w w.heap.size A bs) :
    Calls Tryz.prog 3 #[.slice A bs.length c] w fun e w' => e = .returned (.bool true) ∧ Below w.heap.size w w' := by
  have hnb := hK.nb
  have hd : decide (1048576 < bs.length) = false := by simp; omega
  go_enter Tryz.func3, Tryz.ntmps3
  go_wp2_with (go_at_call 6; refine (l_big _ _ _ _ (by omega)).mono ?_; rw [hd]; rintro e w' ⟨rfl, rfl⟩)
  refine (s_DrawActs w.heap.size A c bs w hK (Nat.le_refl _)).mono ?_
  rintro e w1 ⟨d1, f1, ss1, d2, f2, ss2, st, P, pp, m, A1, c1, A2, c2, A3, c3, A4, c4, A5, c5, la, Aa, ca, HW, hla, rfl, o_W, o_A, G_⟩
  have hwk := HW.ok
  have hz := HW.z
  have s_w1 := G_.size
  have HWK := Lib.hid hwk
  have HZ := hide hz
  have hr1 := runRes_work (l := la) hwk
  have hr2 := runRes_ok ⟨⟨d1, f1, ss1, d2, f2, ss2, st⟩, P, pp, m⟩ la hz
  have hr3 : (runRes ⟨⟨d1, f1, ss1, d2, f2, ss2, st⟩, P, pp, m⟩ la).2.length = la.length := by rw [runRes_yes hwk (by omega), runAll_len]; simp
  have kR := fun (W : World) (h1 : OwnW W w.heap.size w1.heap.size A1 c1 A2 c2 A3 c3 A4 c4 A5 c5 ⟨d1, f1, ss1, d2, f2, ss2, st⟩ P pp) (h2 : OwnA W w.heap.size w1.heap.size Aa ca la) => i_RunActs d1 f1 ss1 d2 f2 ss2 st P pp m la W.heap.size A1 A2 A3 A4 A5 c1 c2 c3 c4 c5 Aa ca W (h1.rd (hz.more (by omega))) (h2.rd (by omega)) (Nat.le_refl _) hz
  generalize runRes ⟨⟨d1, f1, ss1, d2, f2, ss2, st⟩, P, pp, m⟩ la = R at *
  obtain ⟨⟨⟨e1, g1, ts1, e2, g2, ts2, tt⟩, Q, qq, mm⟩, xs⟩ := R
  simp only at hr1 hr2 hr3 kR
  have kR2 : ∀ W : World, OwnW W w.heap.size w1.heap.size A1 c1 A2 c2 A3 c3 A4 c4 A5 c5 ⟨d1, f1, ss1, d2, f2, ss2, st⟩ P pp → OwnA W w.heap.size w1.heap.size Aa ca la → Calls Tryz.prog 8 #[.agg #[.int .i64 d1, .int .i64 f1, .slice A1 ss1.length c1, .int .i64 d2, .int .i64 f2, .slice A2 ss2.length c2, .slice A3 st.length c3, .slice A4 P.length c4, .slice A5 pp.length c5, .int .i64 m], .slice Aa la.length ca] W fun e w' => ∃ (B1 : Option Addr) (b1 : Nat) (B2 : Option Addr) (b2 : Nat) (B3 : Option Addr) (b3 : Nat) (B4 : Option Addr) (b4 : Nat) (B5 : Option Addr) (b5 : Nat) (B6 : Option Addr) (b6 : Nat) (l1 h1 l2 h2 : Nat), e = .returned (.tuple #[.agg #[.int .i64 e1, .int .i64 g1, .slice B1 ts1.length b1, .int .i64 e2, .int .i64 g2, .slice B2 ts2.length b2, .slice B3 tt.length b3, .slice B4 Q.length b4, .slice B5 qq.length b5, .int .i64 mm], .slice B6 la.length b6]) ∧ (W.heap.size ≤ l1 ∧ W.heap.size ≤ l2 ∧ h2 ≤ w'.heap.size) ∧ OwnW w' l1 h1 B1 b1 B2 b2 B3 b3 B4 b4 B5 b5 ⟨e1, g1, ts1, e2, g2, ts2, tt⟩ Q qq ∧ OwnN w' l2 h2 B6 b6 xs ∧ Below W.heap.size W w' := by
    intro W h1 h2
    refine (kR W h1 h2).mono ?_
    rintro e w' ⟨B1, b1, B2, b2, B3, b3, B4, b4, B5, b5, B6, b6, rfl, ho, hb⟩
    obtain ⟨l1, k1, l2, k2, hr, ha, x, y⟩ := ho.all
    exact ⟨B1, b1, B2, b2, B3, b3, B4, b4, B5, b5, B6, b6, l1, k1, l2, k2, by rw [hr3], by omega, x, y, hb⟩
  have HKR := hide kR2
  have HR1 := Lib.hid hr1
  have HR2 := hide hr2
  have HXL := Lib.hid hr3
  clear kR kR2 hr1 hr2 hr3 hwk hz HW
  have hsw := sample_work
  have hso := openW_yes hsw
  have kS := fun (W : World) => i_SampleWorkshop W
  rw [hso] at kS
  have hzS : OkWork (PDraft.mk 3 4 sampleSS 3 4 sampleSS []) [] [] 1048576 := ⟨⟨sample_ok.1, sample_ok.1, Nat.zero_le _, sample_ok.2, sample_ok.2, (fun s hs => by cases hs)⟩, ⟨Nat.zero_le _, (fun x hx => by cases hx)⟩, Nat.zero_le _⟩
  generalize sampleSS = sS at *
  have HKS := hide kS
  have HSW := Lib.hid hsw
  have HZS := hide hzS
  clear kS hsw hzS hso
  go_wp2_with fail
  obtain ⟨w2, e_⟩ : ∃ x, x = (w1.alloc (.cells #[.int .i64 d1, .int .i64 f1, .slice A1 ss1.length c1, .int .i64 d2, .int .i64 f2, .slice A2 ss2.length c2, .slice A3 st.length c3, .slice A4 P.length c4, .slice A5 pp.length c5, .int .i64 m] 33)) := ⟨_, rfl⟩
  have hX_ : Boxy w1 w2 := by rw [e_]; exact boxy
  have z_ : Below w.heap.size w1 w2 := by rw [e_]; exact bel
  have k_o : w2.heap[w1.heap.size]? = some (.cells #[.int .i64 d1, .int .i64 f1, .slice A1 ss1.length c1, .int .i64 d2, .int .i64 f2, .slice A2 ss2.length c2, .slice A3 st.length c3, .slice A4 P.length c4, .slice A5 pp.length c5, .int .i64 m] 33 (0, 0)) := by rw [e_]; exact (blk_new_at _ _ (by simp))
  replace o_W := o_W.boxy hX_
  replace o_A := o_A.boxy hX_
  replace G_ : Below w.heap.size w w2 := G_.trans z_
  have s_w2 : w1.heap.size ≤ w2.heap.size := by rw [e_]; simp [World.setCell]; try omega
  obtain ⟨bo, eb_⟩ : ∃ x, x = w1.heap.size := ⟨_, rfl⟩
  rw [← eb_] at k_o
  have l_o : w.heap.size ≤ bo := by omega
  have eb_o := eb_; clear eb_
  rw [← e_]
  clear e_ hX_ z_ 
  try rw [← eb_o]
  clear eb_o
  refine (HKR.out w2 o_W o_A).mono ?_
  rintro e w3 ⟨B1, b1, B2, b2, B3, b3, B4, b4, B5, b5, B6, b6, l1, h1, l2, h2, rfl, hrg, o_X, o_N, z_⟩
  replace k_o := blk_next k_o z_
  replace o_W := o_W.below z_
  replace o_A := o_A.below z_
  replace G_ := G_.trans (z_.mono G_.size)
  have s_w3 := z_.size
  clear z_
  clear o_A o_N
  obtain ⟨x0o, x1o, x2o, x3o, x4o, x5o, x6o, x7o, x8o, x9o, xlo⟩ := blk10 k_o
  go_wp2_with fail
  clear x0o x1o x2o x3o x4o x5o x6o x7o x8o x9o xlo
  have q_o := blk_lt k_o
  obtain ⟨w4, e_⟩ : ∃ x, x = (w3.alloc (.cells #[.int .i64 e1, .int .i64 g1, .slice B1 ts1.length b1, .int .i64 e2, .int .i64 g2, .slice B2 ts2.length b2, .slice B3 tt.length b3, .slice B4 Q.length b4, .slice B5 qq.length b5, .int .i64 mm] 33)) := ⟨_, rfl⟩
  have hX_ : Boxy w3 w4 := by rw [e_]; exact boxy
  have z_ : Below w.heap.size w3 w4 := by rw [e_]; exact bel
  replace k_o := hkw e_ (blk_alloc k_o _)
  have k_x : w4.heap[w3.heap.size]? = some (.cells #[.int .i64 e1, .int .i64 g1, .slice B1 ts1.length b1, .int .i64 e2, .int .i64 g2, .slice B2 ts2.length b2, .slice B3 tt.length b3, .slice B4 Q.length b4, .slice B5 qq.length b5, .int .i64 mm] 33 (0, 0)) := by rw [e_]; exact (blk_new_at _ _ (by simp))
  replace o_W := o_W.boxy hX_
  replace o_X := o_X.boxy hX_
  replace G_ : Below w.heap.size w w4 := G_.trans z_
  have s_w4 : w3.heap.size ≤ w4.heap.size := by rw [e_]; simp [World.setCell]; try omega
  obtain ⟨bx, eb_⟩ : ∃ x, x = w3.heap.size := ⟨_, rfl⟩
  rw [← eb_] at k_x
  have l_x : w.heap.size ≤ bx := by omega
  have d_ox : bo < bx := by omega
  have eb_x := eb_; clear eb_
  rw [← e_]
  clear e_ hX_ z_ q_o
  try rw [← eb_x]
  clear eb_x
  refine (i_WorkshopOk d1 f1 ss1 d2 f2 ss2 st P pp m w4.heap.size A1 A2 A3 A4 A5 c1 c2 c3 c4 c5 w4 (o_W.rd (HZ.out.more (by omega))) (Nat.le_refl _)).mono ?_
  rintro e w5 ⟨rfl, z_⟩
  replace k_o := blk_next k_o z_
  replace k_x := blk_next k_x z_
  replace o_W := o_W.below z_
  replace o_X := o_X.below z_
  replace G_ := G_.trans (z_.mono G_.size)
  have s_w5 := z_.size
  clear z_
  rw [HWK.out]
  clear o_W
  obtain ⟨x0x, x1x, x2x, x3x, x4x, x5x, x6x, x7x, x8x, x9x, xlx⟩ := blk10 k_x
  go_wp2_with fail
  clear x0x x1x x2x x3x x4x x5x x6x x7x x8x x9x xlx
  refine (i_WorkshopOk e1 g1 ts1 e2 g2 ts2 tt Q qq mm w5.heap.size B1 B2 B3 B4 B5 b1 b2 b3 b4 b5 w5 (o_X.rd (HR2.out.more (by omega))) (Nat.le_refl _)).mono ?_
  rintro e w6 ⟨rfl, z_⟩
  replace k_o := blk_next k_o z_
  replace k_x := blk_next k_x z_
  replace o_X := o_X.below z_
  replace G_ := G_.trans (z_.mono G_.size)
  have s_w6 := z_.size
  clear z_
  rw [HR1.out]
  clear o_X
  go_wp2_with fail
  refine (HKS.out w6).mono ?_
  rintro e w7 ⟨S1, q1, S2, q2, S3, q3, S4, q4, S5, q5, rfl, o_S, z_⟩
  replace k_o := blk_next k_o z_
  replace k_x := blk_next k_x z_
  replace G_ := G_.trans (z_.mono G_.size)
  have s_w7 := z_.size
  clear z_
  go_wp2_with fail
  refine (i_WorkshopOk 3 4 sS 3 4 sS [] [] [] 100 w7.heap.size S1 S2 S3 S4 S5 q1 q2 q3 q4 q5 w7 (o_S.rd (HZS.out.more (by omega))) (Nat.le_refl _)).mono ?_
  rintro e w8 ⟨rfl, z_⟩
  replace k_o := blk_next k_o z_
  replace k_x := blk_next k_x z_
  replace o_S := o_S.below z_
  replace G_ := G_.trans (z_.mono G_.size)
  have s_w8 := z_.size
  clear z_
  rw [HSW.out]
  go_wp2
  go_ret
  exact ⟨rfl, G_⟩
end Go.Proofs.YteffbjddgdjkmaaGreat.fnScenarios
