/- FnWorkshops: the walk. -/
import Derived.Deep.DeepCutAuto
import Derived.Test.YteffbjddgdjkmaaGreatRows
import Derived.Test.YteffbjddgdjkmaaGreatQWx
import Derived.Test.YteffbjddgdjkmaaGreatQWy
import Derived.Test.YteffbjddgdjkmaaGreatQWWork5KeepCardi
import Derived.Test.YteffbjddgdjkmaaGreatQWWork5ForgetCardi
import Derived.Test.YteffbjddgdjkmaaGreatQWWork5Shapei
import Derived.Test.YteffbjddgdjkmaaGreatQWWork5Unshapei
import Derived.Test.YteffbjddgdjkmaaGreatQWWork7BuyPaperi
import Derived.Test.YteffbjddgdjkmaaGreatQWWork7MakeCopiesi
namespace Go.Proofs.YteffbjddgdjkmaaGreat.fnWorkshops
open Go.ChangeShapes Go.WideShapes Go.ChangeAt Go.RowKit
set_option linter.unusedVariables false
set_option linter.unusedSimpArgs false
set_option maxRecDepth 10000
set_option maxHeartbeats 12800000 in
theorem walkWorkshops (A : Option Addr) (c : Nat) (bs : List Int) (w : World) (hK : Code w w.heap.size A bs) :
    Calls Tryz.prog 5 #[.slice A bs.length c] w fun e w' => e = .returned (.bool true) ∧ Below w.heap.size w w' := by
  have hnb := hK.nb
  have hd : decide (1048576 < bs.length) = false := by simp; omega
  go_enter Tryz.func5, Tryz.ntmps5
  go_wp2_with (go_at_call 6; refine (l_big _ _ _ _ (by omega)).mono ?_; rw [hd]; rintro e w' ⟨rfl, rfl⟩)
  refine (s_DrawWorkshop w.heap.size A c bs w hK (Nat.le_refl _)).mono ?_
  rintro e w1 ⟨d1, f1, ss1, d2, f2, ss2, st, P, pp, m, A1, c1, A2, c2, A3, c3, A4, c4, A5, c5, HW, rfl, o_W, G_⟩
  have s_w1 := G_.size
  have hz : OkWork (PDraft.mk d1 f1 ss1 d2 f2 ss2 st) P pp 1048576 := HW.z
  have hm0 := workOk_m HW.ok
  simp only at hm0
  have hcb := card_bounds (draft_card (workOk_iff.1 HW.ok).1)
  simp only at hcb
  have hl0 : 0 < ss2.length := hcb.2.1.1
  have hz16 : ∀ s ∈ ss2, s.size ≤ 16777216 := fun s hs => by have := hcb.2.2 s hs; omega
  have hs0z := hz16 _ (List.getElem_mem hl0)
  obtain ⟨X0, hX0⟩ : ∃ X, atV bs 0 = X := ⟨_, rfl⟩
  have hx0 := atV_bd hK.bd 0
  have kAt := fun (W : World) (h : Code W w.heap.size A bs) => l_at 0 w.heap.size A c bs W h (by omega)
  rw [hX0] at kAt hx0
  have HA := hide kAt
  clear hX0 kAt
  obtain ⟨n, hn⟩ : ∃ n : Int, 1 + X0 % 20 = n := ⟨_, rfl⟩
  have hn1 : 1 ≤ n := by omega
  have hn2 : n ≤ 20 := by omega
  have HNN := Lib.hid hn
  obtain ⟨b, pq, pr, mq, mr, Q, S⟩ := shop_all HW hn1 hn2
  obtain ⟨sh, bu, sv, mS, U, R⟩ := shape_all HW hl0
  obtain ⟨⟨du1, fu1, us1, du2, fu2, us2, ut⟩, UP, up, um⟩ := U
  obtain ⟨ss0, hss0⟩ : ∃ x, ss2[0] = x := ⟨_, rfl⟩
  obtain ⟨S_buy, S_keep, S_ok1, S_make, S_more, S_ok2, S_forget, S_none, S_can, S_yes, S_z1, S_z2, S_z3, S_z4, S_bd⟩ := S
  obtain ⟨R_shape, R_back, R_ok, R_z1, R_z2, R_can, R_yes⟩ := R
  simp only at S_buy S_keep S_ok1 S_make S_more S_ok2 S_forget S_none S_can S_yes S_z1 S_z2 S_z3 S_z4 R_shape R_back R_ok R_z1 R_z2 R_can R_yes
  rw [hss0] at R_shape hs0z
  have k0 : ∀ (X1 : Option Addr) (x1 : Nat) (X2 : Option Addr) (x2 : Nat) (X3 : Option Addr) (x3 : Nat) (X4 : Option Addr) (x4 : Nat) (X5 : Option Addr) (x5 : Nat) (lo hi : Nat) (W : World), OwnW W lo hi X1 x1 X2 x2 X3 x3 X4 x4 X5 x5 ⟨d1, f1, ss1, d2, f2, ss2, st⟩ P pp → Calls Tryz.prog 15 #[.agg #[.int .i64 d1, .int .i64 f1, .slice X1 ss1.length x1, .int .i64 d2, .int .i64 f2, .slice X2 ss2.length x2, .slice X3 st.length x3, .slice X4 P.length x4, .slice X5 pp.length x5, .int .i64 m], .int .i64 7, .int .i64 n] W fun e w' => ∃ (Y1 : Option Addr) (y1 : Nat) (Y2 : Option Addr) (y2 : Nat) (Y3 : Option Addr) (y3 : Nat) (Y4 : Option Addr) (y4 : Nat) (Y5 : Option Addr) (y5 : Nat), e = .returned (.tuple #[.agg #[.int .i64 d1, .int .i64 f1, .slice Y1 ss1.length y1, .int .i64 d2, .int .i64 f2, .slice Y2 ss2.length y2, .slice Y3 st.length y3, .slice Y4 P.length y4, .slice Y5 pq.length y5, .int .i64 mq], .bool b]) ∧ OwnW w' W.heap.size w'.heap.size Y1 y1 Y2 y2 Y3 y3 Y4 y4 Y5 y5 ⟨d1, f1, ss1, d2, f2, ss2, st⟩ P pq ∧ Below W.heap.size W w' := by
    intro X1 x1 X2 x2 X3 x3 X4 x4 X5 x5 lo hi W h
    have q := i_BuyPaper d1 f1 ss1 d2 f2 ss2 st P pp m 7 n W.heap.size X1 X2 X3 X4 X5 x1 x2 x3 x4 x5 W (h.rd (hz.more (by omega))) (Nat.le_refl _) hz
    rw [S_buy] at q
    refine q.mono ?_
    rintro e w' ⟨Y1, y1, Y2, y2, Y3, y3, Y4, y4, Y5, y5, rfl, ho, hb⟩
    exact ⟨Y1, y1, Y2, y2, Y3, y3, Y4, y4, Y5, y5, rfl, ho, hb⟩
  have HBUY := hide k0
  clear k0
  have k0 : ∀ (X1 : Option Addr) (x1 : Nat) (X2 : Option Addr) (x2 : Nat) (X3 : Option Addr) (x3 : Nat) (X4 : Option Addr) (x4 : Nat) (X5 : Option Addr) (x5 : Nat) (lo hi : Nat) (W : World), OwnW W lo hi X1 x1 X2 x2 X3 x3 X4 x4 X5 x5 ⟨d1, f1, ss1, d2, f2, ss2, st⟩ P pq → Calls Tryz.prog 17 #[.agg #[.int .i64 d1, .int .i64 f1, .slice X1 ss1.length x1, .int .i64 d2, .int .i64 f2, .slice X2 ss2.length x2, .slice X3 st.length x3, .slice X4 P.length x4, .slice X5 pq.length x5, .int .i64 mq], .string ⟨#[111, 119, 108]⟩] W fun e w' => ∃ (Y1 : Option Addr) (y1 : Nat) (Y2 : Option Addr) (y2 : Nat) (Y3 : Option Addr) (y3 : Nat) (Y4 : Option Addr) (y4 : Nat) (Y5 : Option Addr) (y5 : Nat), e = .returned (.tuple #[.agg #[.int .i64 d1, .int .i64 f1, .slice Y1 ss1.length y1, .int .i64 d2, .int .i64 f2, .slice Y2 ss2.length y2, .slice Y3 st.length y3, .slice Y4 Q.length y4, .slice Y5 pq.length y5, .int .i64 mq], .bool true]) ∧ OwnW w' W.heap.size w'.heap.size Y1 y1 Y2 y2 Y3 y3 Y4 y4 Y5 y5 ⟨d1, f1, ss1, d2, f2, ss2, st⟩ Q pq ∧ Below W.heap.size W w' := by
    intro X1 x1 X2 x2 X3 x3 X4 x4 X5 x5 lo hi W h
    have q := i_KeepCard d1 f1 ss1 d2 f2 ss2 st P pq mq owl W.heap.size X1 X2 X3 X4 X5 x1 x2 x3 x4 x5 W (h.rd (S_z1.more (by omega))) (Nat.le_refl _) S_z1 owl_size
    rw [S_keep] at q
    refine q.mono ?_
    rintro e w' ⟨Y1, y1, Y2, y2, Y3, y3, Y4, y4, Y5, y5, rfl, ho, hb⟩
    exact ⟨Y1, y1, Y2, y2, Y3, y3, Y4, y4, Y5, y5, rfl, ho, hb⟩
  have HKEEP := hide k0
  clear k0
  have k0 : ∀ (X1 : Option Addr) (x1 : Nat) (X2 : Option Addr) (x2 : Nat) (X3 : Option Addr) (x3 : Nat) (X4 : Option Addr) (x4 : Nat) (X5 : Option Addr) (x5 : Nat) (lo hi : Nat) (W : World), OwnW W lo hi X1 x1 X2 x2 X3 x3 X4 x4 X5 x5 ⟨d1, f1, ss1, d2, f2, ss2, st⟩ Q pq → Calls Tryz.prog 18 #[.agg #[.int .i64 d1, .int .i64 f1, .slice X1 ss1.length x1, .int .i64 d2, .int .i64 f2, .slice X2 ss2.length x2, .slice X3 st.length x3, .slice X4 Q.length x4, .slice X5 pq.length x5, .int .i64 mq], .string ⟨#[111, 119, 108]⟩, .int .i64 7, .int .i64 n] W fun e w' => ∃ (Y1 : Option Addr) (y1 : Nat) (Y2 : Option Addr) (y2 : Nat) (Y3 : Option Addr) (y3 : Nat) (Y4 : Option Addr) (y4 : Nat) (Y5 : Option Addr) (y5 : Nat), e = .returned (.tuple #[.agg #[.int .i64 d1, .int .i64 f1, .slice Y1 ss1.length y1, .int .i64 d2, .int .i64 f2, .slice Y2 ss2.length y2, .slice Y3 st.length y3, .slice Y4 Q.length y4, .slice Y5 pr.length y5, .int .i64 mr], .bool b]) ∧ OwnW w' W.heap.size w'.heap.size Y1 y1 Y2 y2 Y3 y3 Y4 y4 Y5 y5 ⟨d1, f1, ss1, d2, f2, ss2, st⟩ Q pr ∧ Below W.heap.size W w' := by
    intro X1 x1 X2 x2 X3 x3 X4 x4 X5 x5 lo hi W h
    have q := i_MakeCopies d1 f1 ss1 d2 f2 ss2 st Q pq mq owl 7 n W.heap.size X1 X2 X3 X4 X5 x1 x2 x3 x4 x5 W (h.rd (S_z2.more (by omega))) (Nat.le_refl _) S_z2
    rw [S_make] at q
    refine q.mono ?_
    rintro e w' ⟨Y1, y1, Y2, y2, Y3, y3, Y4, y4, Y5, y5, rfl, ho, hb⟩
    exact ⟨Y1, y1, Y2, y2, Y3, y3, Y4, y4, Y5, y5, rfl, ho, hb⟩
  have HMAKE := hide k0
  clear k0
  have k0 : ∀ (X1 : Option Addr) (x1 : Nat) (X2 : Option Addr) (x2 : Nat) (X3 : Option Addr) (x3 : Nat) (X4 : Option Addr) (x4 : Nat) (X5 : Option Addr) (x5 : Nat) (lo hi : Nat) (W : World), OwnW W lo hi X1 x1 X2 x2 X3 x3 X4 x4 X5 x5 ⟨d1, f1, ss1, d2, f2, ss2, st⟩ Q pq → Calls Tryz.prog 18 #[.agg #[.int .i64 d1, .int .i64 f1, .slice X1 ss1.length x1, .int .i64 d2, .int .i64 f2, .slice X2 ss2.length x2, .slice X3 st.length x3, .slice X4 Q.length x4, .slice X5 pq.length x5, .int .i64 mq], .string ⟨#[111, 119, 108]⟩, .int .i64 7, .int .i64 (n + 1)] W fun e w' => ∃ (Y1 : Option Addr) (y1 : Nat) (Y2 : Option Addr) (y2 : Nat) (Y3 : Option Addr) (y3 : Nat) (Y4 : Option Addr) (y4 : Nat) (Y5 : Option Addr) (y5 : Nat), e = .returned (.tuple #[.agg #[.int .i64 d1, .int .i64 f1, .slice Y1 ss1.length y1, .int .i64 d2, .int .i64 f2, .slice Y2 ss2.length y2, .slice Y3 st.length y3, .slice Y4 Q.length y4, .slice Y5 pq.length y5, .int .i64 mq], .bool false]) ∧ OwnW w' W.heap.size w'.heap.size Y1 y1 Y2 y2 Y3 y3 Y4 y4 Y5 y5 ⟨d1, f1, ss1, d2, f2, ss2, st⟩ Q pq ∧ Below W.heap.size W w' := by
    intro X1 x1 X2 x2 X3 x3 X4 x4 X5 x5 lo hi W h
    have q := i_MakeCopies d1 f1 ss1 d2 f2 ss2 st Q pq mq owl 7 (n + 1) W.heap.size X1 X2 X3 X4 X5 x1 x2 x3 x4 x5 W (h.rd (S_z2.more (by omega))) (Nat.le_refl _) S_z2
    rw [S_more] at q
    refine q.mono ?_
    rintro e w' ⟨Y1, y1, Y2, y2, Y3, y3, Y4, y4, Y5, y5, rfl, ho, hb⟩
    exact ⟨Y1, y1, Y2, y2, Y3, y3, Y4, y4, Y5, y5, rfl, ho, hb⟩
  have HMORE := hide k0
  clear k0
  have k0 : ∀ (X1 : Option Addr) (x1 : Nat) (X2 : Option Addr) (x2 : Nat) (X3 : Option Addr) (x3 : Nat) (X4 : Option Addr) (x4 : Nat) (X5 : Option Addr) (x5 : Nat) (lo hi : Nat) (W : World), OwnW W lo hi X1 x1 X2 x2 X3 x3 X4 x4 X5 x5 ⟨d1, f1, ss1, d2, f2, ss2, st⟩ Q pr → Calls Tryz.prog 19 #[.agg #[.int .i64 d1, .int .i64 f1, .slice X1 ss1.length x1, .int .i64 d2, .int .i64 f2, .slice X2 ss2.length x2, .slice X3 st.length x3, .slice X4 Q.length x4, .slice X5 pr.length x5, .int .i64 mr], .string ⟨#[111, 119, 108]⟩] W fun e w' => ∃ (Y1 : Option Addr) (y1 : Nat) (Y2 : Option Addr) (y2 : Nat) (Y3 : Option Addr) (y3 : Nat) (Y4 : Option Addr) (y4 : Nat) (Y5 : Option Addr) (y5 : Nat), e = .returned (.tuple #[.agg #[.int .i64 d1, .int .i64 f1, .slice Y1 ss1.length y1, .int .i64 d2, .int .i64 f2, .slice Y2 ss2.length y2, .slice Y3 st.length y3, .slice Y4 P.length y4, .slice Y5 pr.length y5, .int .i64 mr], .bool true]) ∧ OwnW w' W.heap.size w'.heap.size Y1 y1 Y2 y2 Y3 y3 Y4 y4 Y5 y5 ⟨d1, f1, ss1, d2, f2, ss2, st⟩ P pr ∧ Below W.heap.size W w' := by
    intro X1 x1 X2 x2 X3 x3 X4 x4 X5 x5 lo hi W h
    have q := i_ForgetCard d1 f1 ss1 d2 f2 ss2 st Q pr mr owl W.heap.size X1 X2 X3 X4 X5 x1 x2 x3 x4 x5 W (h.rd (S_z3.more (by omega))) (Nat.le_refl _) S_z3
    rw [S_forget] at q
    refine q.mono ?_
    rintro e w' ⟨Y1, y1, Y2, y2, Y3, y3, Y4, y4, Y5, y5, rfl, ho, hb⟩
    exact ⟨Y1, y1, Y2, y2, Y3, y3, Y4, y4, Y5, y5, rfl, ho, hb⟩
  have HFORG := hide k0
  clear k0
  have k0 : ∀ (X1 : Option Addr) (x1 : Nat) (X2 : Option Addr) (x2 : Nat) (X3 : Option Addr) (x3 : Nat) (X4 : Option Addr) (x4 : Nat) (X5 : Option Addr) (x5 : Nat) (lo hi : Nat) (W : World), OwnW W lo hi X1 x1 X2 x2 X3 x3 X4 x4 X5 x5 ⟨d1, f1, ss1, d2, f2, ss2, st⟩ P pr → Calls Tryz.prog 18 #[.agg #[.int .i64 d1, .int .i64 f1, .slice X1 ss1.length x1, .int .i64 d2, .int .i64 f2, .slice X2 ss2.length x2, .slice X3 st.length x3, .slice X4 P.length x4, .slice X5 pr.length x5, .int .i64 mr], .string ⟨#[111, 119, 108]⟩, .int .i64 7, .int .i64 1] W fun e w' => ∃ (Y1 : Option Addr) (y1 : Nat) (Y2 : Option Addr) (y2 : Nat) (Y3 : Option Addr) (y3 : Nat) (Y4 : Option Addr) (y4 : Nat) (Y5 : Option Addr) (y5 : Nat), e = .returned (.tuple #[.agg #[.int .i64 d1, .int .i64 f1, .slice Y1 ss1.length y1, .int .i64 d2, .int .i64 f2, .slice Y2 ss2.length y2, .slice Y3 st.length y3, .slice Y4 P.length y4, .slice Y5 pr.length y5, .int .i64 mr], .bool false]) ∧ OwnW w' W.heap.size w'.heap.size Y1 y1 Y2 y2 Y3 y3 Y4 y4 Y5 y5 ⟨d1, f1, ss1, d2, f2, ss2, st⟩ P pr ∧ Below W.heap.size W w' := by
    intro X1 x1 X2 x2 X3 x3 X4 x4 X5 x5 lo hi W h
    have q := i_MakeCopies d1 f1 ss1 d2 f2 ss2 st P pr mr owl 7 1 W.heap.size X1 X2 X3 X4 X5 x1 x2 x3 x4 x5 W (h.rd (S_z4.more (by omega))) (Nat.le_refl _) S_z4
    rw [S_none] at q
    refine q.mono ?_
    rintro e w' ⟨Y1, y1, Y2, y2, Y3, y3, Y4, y4, Y5, y5, rfl, ho, hb⟩
    exact ⟨Y1, y1, Y2, y2, Y3, y3, Y4, y4, Y5, y5, rfl, ho, hb⟩
  have HNONE := hide k0
  clear k0
  have k0 : ∀ (X1 : Option Addr) (x1 : Nat) (X2 : Option Addr) (x2 : Nat) (X3 : Option Addr) (x3 : Nat) (X4 : Option Addr) (x4 : Nat) (X5 : Option Addr) (x5 : Nat) (lo hi : Nat) (W : World), OwnW W lo hi X1 x1 X2 x2 X3 x3 X4 x4 X5 x5 ⟨d1, f1, ss1, d2, f2, ss2, st⟩ P pp → Calls Tryz.prog 20 #[.agg #[.int .i64 d1, .int .i64 f1, .slice X1 ss1.length x1, .int .i64 d2, .int .i64 f2, .slice X2 ss2.length x2, .slice X3 st.length x3, .slice X4 P.length x4, .slice X5 pp.length x5, .int .i64 m], .agg #[.int .i64 3, .int .i64 0, .int .i64 0, .int .i64 0, .int .i64 0, .string ss0, .string ss0]] W fun e w' => ∃ (Y1 : Option Addr) (y1 : Nat) (Y2 : Option Addr) (y2 : Nat) (Y3 : Option Addr) (y3 : Nat) (Y4 : Option Addr) (y4 : Nat) (Y5 : Option Addr) (y5 : Nat), e = .returned (.tuple #[.agg #[.int .i64 d1, .int .i64 f1, .slice Y1 ss1.length y1, .int .i64 d2, .int .i64 f2, .slice Y2 ss2.length y2, .slice Y3 sv.length y3, .slice Y4 P.length y4, .slice Y5 pp.length y5, .int .i64 mS], .bool sh]) ∧ OwnW w' W.heap.size w'.heap.size Y1 y1 Y2 y2 Y3 y3 Y4 y4 Y5 y5 ⟨d1, f1, ss1, d2, f2, ss2, sv⟩ P pp ∧ Below W.heap.size W w' := by
    intro X1 x1 X2 x2 X3 x3 X4 x4 X5 x5 lo hi W h
    have q := i_Shape d1 f1 ss1 d2 f2 ss2 st P pp m 3 0 0 0 0 ss0 ss0 W.heap.size X1 X2 X3 X4 X5 x1 x2 x3 x4 x5 W (h.rd (hz.more (by omega))) (Nat.le_refl _) hz hs0z hs0z
    rw [R_shape] at q
    refine q.mono ?_
    rintro e w' ⟨Y1, y1, Y2, y2, Y3, y3, Y4, y4, Y5, y5, rfl, ho, hb⟩
    exact ⟨Y1, y1, Y2, y2, Y3, y3, Y4, y4, Y5, y5, rfl, ho, hb⟩
  have HSHAPE := hide k0
  clear k0
  have k0 : ∀ (X1 : Option Addr) (x1 : Nat) (X2 : Option Addr) (x2 : Nat) (X3 : Option Addr) (x3 : Nat) (X4 : Option Addr) (x4 : Nat) (X5 : Option Addr) (x5 : Nat) (lo hi : Nat) (W : World), OwnW W lo hi X1 x1 X2 x2 X3 x3 X4 x4 X5 x5 ⟨d1, f1, ss1, d2, f2, ss2, sv⟩ P pp → Calls Tryz.prog 21 #[.agg #[.int .i64 d1, .int .i64 f1, .slice X1 ss1.length x1, .int .i64 d2, .int .i64 f2, .slice X2 ss2.length x2, .slice X3 sv.length x3, .slice X4 P.length x4, .slice X5 pp.length x5, .int .i64 mS]] W fun e w' => ∃ (Y1 : Option Addr) (y1 : Nat) (Y2 : Option Addr) (y2 : Nat) (Y3 : Option Addr) (y3 : Nat) (Y4 : Option Addr) (y4 : Nat) (Y5 : Option Addr) (y5 : Nat), e = .returned (.tuple #[.agg #[.int .i64 du1, .int .i64 fu1, .slice Y1 us1.length y1, .int .i64 du2, .int .i64 fu2, .slice Y2 us2.length y2, .slice Y3 ut.length y3, .slice Y4 UP.length y4, .slice Y5 up.length y5, .int .i64 um], .bool bu]) ∧ OwnW w' W.heap.size w'.heap.size Y1 y1 Y2 y2 Y3 y3 Y4 y4 Y5 y5 ⟨du1, fu1, us1, du2, fu2, us2, ut⟩ UP up ∧ Below W.heap.size W w' := by
    intro X1 x1 X2 x2 X3 x3 X4 x4 X5 x5 lo hi W h
    have q := i_Unshape d1 f1 ss1 d2 f2 ss2 sv P pp mS W.heap.size X1 X2 X3 X4 X5 x1 x2 x3 x4 x5 W (h.rd (R_z1.more (by omega))) (Nat.le_refl _) R_z1
    rw [R_back] at q
    refine q.mono ?_
    rintro e w' ⟨Y1, y1, Y2, y2, Y3, y3, Y4, y4, Y5, y5, rfl, ho, hb⟩
    exact ⟨Y1, y1, Y2, y2, Y3, y3, Y4, y4, Y5, y5, rfl, ho, hb⟩
  have HBACK := hide k0
  clear k0
  have k0 : ∀ (X1 : Option Addr) (x1 : Nat) (X2 : Option Addr) (x2 : Nat) (X3 : Option Addr) (x3 : Nat) (X4 : Option Addr) (x4 : Nat) (X5 : Option Addr) (x5 : Nat) (lo hi : Nat) (W : World), OwnW W lo hi X1 x1 X2 x2 X3 x3 X4 x4 X5 x5 ⟨d1, f1, ss1, d2, f2, ss2, st⟩ Q pq → Calls Tryz.prog 9 #[.agg #[.int .i64 d1, .int .i64 f1, .slice X1 ss1.length x1, .int .i64 d2, .int .i64 f2, .slice X2 ss2.length x2, .slice X3 st.length x3, .slice X4 Q.length x4, .slice X5 pq.length x5, .int .i64 mq]] W fun e w' => e = .returned (.bool true) ∧ Below W.heap.size W w' := by
    intro X1 x1 X2 x2 X3 x3 X4 x4 X5 x5 lo hi W h
    have q := i_WorkshopOk d1 f1 ss1 d2 f2 ss2 st Q pq mq W.heap.size X1 X2 X3 X4 X5 x1 x2 x3 x4 x5 W (h.rd (S_z2.more (by omega))) (Nat.le_refl _)
    rw [S_ok1] at q
    exact q
  have HOK1 := hide k0
  clear k0
  have k0 : ∀ (X1 : Option Addr) (x1 : Nat) (X2 : Option Addr) (x2 : Nat) (X3 : Option Addr) (x3 : Nat) (X4 : Option Addr) (x4 : Nat) (X5 : Option Addr) (x5 : Nat) (lo hi : Nat) (W : World), OwnW W lo hi X1 x1 X2 x2 X3 x3 X4 x4 X5 x5 ⟨d1, f1, ss1, d2, f2, ss2, st⟩ Q pr → Calls Tryz.prog 9 #[.agg #[.int .i64 d1, .int .i64 f1, .slice X1 ss1.length x1, .int .i64 d2, .int .i64 f2, .slice X2 ss2.length x2, .slice X3 st.length x3, .slice X4 Q.length x4, .slice X5 pr.length x5, .int .i64 mr]] W fun e w' => e = .returned (.bool true) ∧ Below W.heap.size W w' := by
    intro X1 x1 X2 x2 X3 x3 X4 x4 X5 x5 lo hi W h
    have q := i_WorkshopOk d1 f1 ss1 d2 f2 ss2 st Q pr mr W.heap.size X1 X2 X3 X4 X5 x1 x2 x3 x4 x5 W (h.rd (S_z3.more (by omega))) (Nat.le_refl _)
    rw [S_ok2] at q
    exact q
  have HOK2 := hide k0
  clear k0
  have k0 : ∀ (X1 : Option Addr) (x1 : Nat) (X2 : Option Addr) (x2 : Nat) (X3 : Option Addr) (x3 : Nat) (X4 : Option Addr) (x4 : Nat) (X5 : Option Addr) (x5 : Nat) (lo hi : Nat) (W : World), OwnW W lo hi X1 x1 X2 x2 X3 x3 X4 x4 X5 x5 ⟨du1, fu1, us1, du2, fu2, us2, ut⟩ UP up → Calls Tryz.prog 9 #[.agg #[.int .i64 du1, .int .i64 fu1, .slice X1 us1.length x1, .int .i64 du2, .int .i64 fu2, .slice X2 us2.length x2, .slice X3 ut.length x3, .slice X4 UP.length x4, .slice X5 up.length x5, .int .i64 um]] W fun e w' => e = .returned (.bool true) ∧ Below W.heap.size W w' := by
    intro X1 x1 X2 x2 X3 x3 X4 x4 X5 x5 lo hi W h
    have q := i_WorkshopOk du1 fu1 us1 du2 fu2 us2 ut UP up um W.heap.size X1 X2 X3 X4 X5 x1 x2 x3 x4 x5 W (h.rd (R_z2.more (by omega))) (Nat.le_refl _)
    rw [R_ok] at q
    exact q
  have HOKU := hide k0
  clear k0
  have k0 : ∀ (X1 : Option Addr) (x1 : Nat) (X2 : Option Addr) (x2 : Nat) (X3 : Option Addr) (x3 : Nat) (X4 : Option Addr) (x4 : Nat) (X5 : Option Addr) (x5 : Nat) (lo hi : Nat) (W : World), OwnW W lo hi X1 x1 X2 x2 X3 x3 X4 x4 X5 x5 ⟨d1, f1, ss1, d2, f2, ss2, st⟩ P pq → Calls Tryz.prog 16 #[.slice X5 pq.length x5, .int .i64 7] W fun e w' => e = .returned (.int .i64 (sheetsL pq 7)) ∧ Below W.heap.size W w' := fun X1 x1 X2 x2 X3 x3 X4 x4 X5 x5 lo hi W h => s_SheetsLeft pq 7 W.heap.size X5 pq.length x5 W (h.rd (S_z1.more (by omega))).p (Nat.le_refl _)
  have HSQ := hide k0
  clear k0
  have k0 : ∀ (X1 : Option Addr) (x1 : Nat) (X2 : Option Addr) (x2 : Nat) (X3 : Option Addr) (x3 : Nat) (X4 : Option Addr) (x4 : Nat) (X5 : Option Addr) (x5 : Nat) (lo hi : Nat) (W : World), OwnW W lo hi X1 x1 X2 x2 X3 x3 X4 x4 X5 x5 ⟨d1, f1, ss1, d2, f2, ss2, st⟩ Q pr → Calls Tryz.prog 16 #[.slice X5 pr.length x5, .int .i64 7] W fun e w' => e = .returned (.int .i64 (sheetsL pr 7)) ∧ Below W.heap.size W w' := fun X1 x1 X2 x2 X3 x3 X4 x4 X5 x5 lo hi W h => s_SheetsLeft pr 7 W.heap.size X5 pr.length x5 W (h.rd (S_z3.more (by omega))).p (Nat.le_refl _)
  have HSR := hide k0
  clear k0
  have HZ := hide hz
  have HRZ2 := hide R_z2
  clear S_buy S_keep S_ok1 S_make S_more S_ok2 S_forget S_none R_shape R_back R_ok S_z1 S_z2 S_z3 S_z4 R_z1 R_z2 hz HW hcb hz16 hn
  have w2n : wrap64 (2 * n) = 2 * n := by unfold wrap64; omega
  have w5n : wrap64 (5 * n) = 5 * n := by unfold wrap64; omega
  have v2n : IntKind.i64.wrap (2 * n) = 2 * n := by rw [IntKind.wrap_i64]; omega
  have v5n : IntKind.i64.wrap (5 * n) = 5 * n := by rw [IntKind.wrap_i64]; omega
  cases b
  · skip
    have hm2 : ¬ 2 * n ≤ m := of_decide_eq_false S_can.symm
    clear S_yes S_can
    go_wp2_with fail
    obtain ⟨w2, e_⟩ : ∃ x, x = (w1.alloc (.cells #[.int .i64 d1, .int .i64 f1, .slice A1 ss1.length c1, .int .i64 d2, .int .i64 f2, .slice A2 ss2.length c2, .slice A3 st.length c3, .slice A4 P.length c4, .slice A5 pp.length c5, .int .i64 m] 33)) := ⟨_, rfl⟩
    have hX_ : Boxy w1 w2 := by rw [e_]; exact boxy
    have z_ : Below w.heap.size w1 w2 := by rw [e_]; exact bel
    have k_w : w2.heap[w1.heap.size]? = some (.cells #[.int .i64 d1, .int .i64 f1, .slice A1 ss1.length c1, .int .i64 d2, .int .i64 f2, .slice A2 ss2.length c2, .slice A3 st.length c3, .slice A4 P.length c4, .slice A5 pp.length c5, .int .i64 m] 33 (0, 0)) := by rw [e_]; exact (blk_new_at _ _ (by simp))
    replace o_W := o_W.boxy hX_
    replace G_ : Below w.heap.size w w2 := G_.trans z_
    have s_w2 : w1.heap.size ≤ w2.heap.size := by rw [e_]; simp [World.setCell]; try omega
    obtain ⟨bw, eb_⟩ : ∃ x, x = w1.heap.size := ⟨_, rfl⟩
    rw [← eb_] at k_w
    have l_w : w.heap.size ≤ bw := by omega
    have eb_w := eb_; clear eb_
    rw [← e_]
    clear e_ hX_ z_ 
    try rw [← eb_w]
    clear eb_w
    refine (HA.out w2 (hK.below G_)).mono ?_
    rintro e w' ⟨rfl, rfl⟩
    obtain ⟨x0w, x1w, x2w, x3w, x4w, x5w, x6w, x7w, x8w, x9w, xlw⟩ := blk10 k_w
    go_wp2_with fail
    clear x0w x1w x2w x3w x4w x5w x6w x7w x8w x9w xlw
    try rw [HNN.out]
    refine (HBUY.out A1 c1 A2 c2 A3 c3 A4 c4 A5 c5 _ _ w2 o_W).mono ?_
    rintro e w3 ⟨B1, b1, B2, b2, B3, b3, B4, b4, B5, b5, rfl, o_P, z_⟩
    replace k_w := blk_next k_w z_
    replace o_W := o_W.below z_
    replace G_ := G_.trans (z_.mono G_.size)
    have s_w3 := z_.size
    clear z_
    obtain ⟨x0w, x1w, x2w, x3w, x4w, x5w, x6w, x7w, x8w, x9w, xlw⟩ := blk10 k_w
    go_wp2_with fail
    clear x0w x1w x2w x3w x4w x5w x6w x7w x8w x9w xlw
    have q_w := blk_lt k_w
    obtain ⟨w4, e_⟩ : ∃ x, x = (w3.alloc (.cells #[.int .i64 d1, .int .i64 f1, .slice B1 ss1.length b1, .int .i64 d2, .int .i64 f2, .slice B2 ss2.length b2, .slice B3 st.length b3, .slice B4 P.length b4, .slice B5 pq.length b5, .int .i64 mq] 33)) := ⟨_, rfl⟩
    have hX_ : Boxy w3 w4 := by rw [e_]; exact boxy
    have z_ : Below w.heap.size w3 w4 := by rw [e_]; exact bel
    replace k_w := hkw e_ (blk_alloc k_w _)
    have k_p : w4.heap[w3.heap.size]? = some (.cells #[.int .i64 d1, .int .i64 f1, .slice B1 ss1.length b1, .int .i64 d2, .int .i64 f2, .slice B2 ss2.length b2, .slice B3 st.length b3, .slice B4 P.length b4, .slice B5 pq.length b5, .int .i64 mq] 33 (0, 0)) := by rw [e_]; exact (blk_new_at _ _ (by simp))
    replace o_W := o_W.boxy hX_
    replace o_P := o_P.boxy hX_
    replace G_ : Below w.heap.size w w4 := G_.trans z_
    have s_w4 : w3.heap.size ≤ w4.heap.size := by rw [e_]; simp [World.setCell]; try omega
    obtain ⟨bp, eb_⟩ : ∃ x, x = w3.heap.size := ⟨_, rfl⟩
    rw [← eb_] at k_p
    have l_p : w.heap.size ≤ bp := by omega
    have d_wp : bw < bp := by omega
    have eb_p := eb_; clear eb_
    rw [← e_]
    clear e_ hX_ z_ q_w
    try rw [← eb_p]
    clear eb_p
    refine (HKEEP.out B1 b1 B2 b2 B3 b3 B4 b4 B5 b5 _ _ w4 o_P).mono ?_
    rintro e w5 ⟨E1, e1, E2, e2, E3, e3, E4, e4, E5, e5, rfl, o_K, z_⟩
    replace k_w := blk_next k_w z_
    replace k_p := blk_next k_p z_
    replace o_W := o_W.below z_
    replace o_P := o_P.below z_
    replace G_ := G_.trans (z_.mono G_.size)
    have s_w5 := z_.size
    clear z_
    clear o_P
    clear k_p
    go_wp2_with fail
    have q_w := blk_lt k_w
    obtain ⟨w6, e_⟩ : ∃ x, x = (w5.alloc (.cells #[.int .i64 d1, .int .i64 f1, .slice E1 ss1.length e1, .int .i64 d2, .int .i64 f2, .slice E2 ss2.length e2, .slice E3 st.length e3, .slice E4 Q.length e4, .slice E5 pq.length e5, .int .i64 mq] 33)) := ⟨_, rfl⟩
    have hX_ : Boxy w5 w6 := by rw [e_]; exact boxy
    have z_ : Below w.heap.size w5 w6 := by rw [e_]; exact bel
    replace k_w := hkw e_ (blk_alloc k_w _)
    have k_k : w6.heap[w5.heap.size]? = some (.cells #[.int .i64 d1, .int .i64 f1, .slice E1 ss1.length e1, .int .i64 d2, .int .i64 f2, .slice E2 ss2.length e2, .slice E3 st.length e3, .slice E4 Q.length e4, .slice E5 pq.length e5, .int .i64 mq] 33 (0, 0)) := by rw [e_]; exact (blk_new_at _ _ (by simp))
    replace o_W := o_W.boxy hX_
    replace o_K := o_K.boxy hX_
    replace G_ : Below w.heap.size w w6 := G_.trans z_
    have s_w6 : w5.heap.size ≤ w6.heap.size := by rw [e_]; simp [World.setCell]; try omega
    obtain ⟨bk, eb_⟩ : ∃ x, x = w5.heap.size := ⟨_, rfl⟩
    rw [← eb_] at k_k
    have l_k : w.heap.size ≤ bk := by omega
    have d_wk : bw < bk := by omega
    have eb_k := eb_; clear eb_
    rw [← e_]
    clear e_ hX_ z_ q_w
    try rw [← eb_k]
    clear eb_k
    refine (HOK1.out E1 e1 E2 e2 E3 e3 E4 e4 E5 e5 _ _ w6 o_K).mono ?_
    rintro e w7 ⟨rfl, z_⟩
    replace k_w := blk_next k_w z_
    replace k_k := blk_next k_k z_
    replace o_W := o_W.below z_
    replace o_K := o_K.below z_
    replace G_ := G_.trans (z_.mono G_.size)
    have s_w7 := z_.size
    clear z_
    obtain ⟨x0k, x1k, x2k, x3k, x4k, x5k, x6k, x7k, x8k, x9k, xlk⟩ := blk10 k_k
    go_wp2_with fail
    clear x0k x1k x2k x3k x4k x5k x6k x7k x8k x9k xlk
    refine (HMAKE.out E1 e1 E2 e2 E3 e3 E4 e4 E5 e5 _ _ w7 o_K).mono ?_
    rintro e w8 ⟨M1, m1, M2, m2, M3, m3, M4, m4, M5, m5, rfl, o_M, z_⟩
    replace k_w := blk_next k_w z_
    replace k_k := blk_next k_k z_
    replace o_W := o_W.below z_
    replace o_K := o_K.below z_
    replace G_ := G_.trans (z_.mono G_.size)
    have s_w8 := z_.size
    clear z_
    obtain ⟨x0k, x1k, x2k, x3k, x4k, x5k, x6k, x7k, x8k, x9k, xlk⟩ := blk10 k_k
    go_wp2_with fail
    clear x0k x1k x2k x3k x4k x5k x6k x7k x8k x9k xlk
    have q_w := blk_lt k_w
    have q_k := blk_lt k_k
    obtain ⟨w9, e_⟩ : ∃ x, x = (w8.alloc (.cells #[.int .i64 d1, .int .i64 f1, .slice M1 ss1.length m1, .int .i64 d2, .int .i64 f2, .slice M2 ss2.length m2, .slice M3 st.length m3, .slice M4 Q.length m4, .slice M5 pr.length m5, .int .i64 mr] 33)) := ⟨_, rfl⟩
    have hX_ : Boxy w8 w9 := by rw [e_]; exact boxy
    have z_ : Below w.heap.size w8 w9 := by rw [e_]; exact bel
    replace k_w := hkw e_ (blk_alloc k_w _)
    replace k_k := hkw e_ (blk_alloc k_k _)
    have k_m : w9.heap[w8.heap.size]? = some (.cells #[.int .i64 d1, .int .i64 f1, .slice M1 ss1.length m1, .int .i64 d2, .int .i64 f2, .slice M2 ss2.length m2, .slice M3 st.length m3, .slice M4 Q.length m4, .slice M5 pr.length m5, .int .i64 mr] 33 (0, 0)) := by rw [e_]; exact (blk_new_at _ _ (by simp))
    replace o_W := o_W.boxy hX_
    replace o_K := o_K.boxy hX_
    replace o_M := o_M.boxy hX_
    replace G_ : Below w.heap.size w w9 := G_.trans z_
    have s_w9 : w8.heap.size ≤ w9.heap.size := by rw [e_]; simp [World.setCell]; try omega
    obtain ⟨bm, eb_⟩ : ∃ x, x = w8.heap.size := ⟨_, rfl⟩
    rw [← eb_] at k_m
    have l_m : w.heap.size ≤ bm := by omega
    have d_wm : bw < bm := by omega
    have d_km : bk < bm := by omega
    have eb_m := eb_; clear eb_
    rw [← e_]
    clear e_ hX_ z_ q_w q_k
    try rw [← eb_m]
    clear eb_m
    refine (HMORE.out E1 e1 E2 e2 E3 e3 E4 e4 E5 e5 _ _ w9 o_K).mono ?_
    rintro e w10 ⟨N1, n1, N2, n2, N3, n3, N4, n4, N5, n5, rfl, o_N, z_⟩
    replace k_w := blk_next k_w z_
    replace k_k := blk_next k_k z_
    replace k_m := blk_next k_m z_
    replace o_W := o_W.below z_
    replace o_K := o_K.below z_
    replace o_M := o_M.below z_
    replace G_ := G_.trans (z_.mono G_.size)
    have s_w10 := z_.size
    clear z_
    clear o_K
    clear o_N
    obtain ⟨x0k, x1k, x2k, x3k, x4k, x5k, x6k, x7k, x8k, x9k, xlk⟩ := blk10 k_k
    obtain ⟨x0m, x1m, x2m, x3m, x4m, x5m, x6m, x7m, x8m, x9m, xlm⟩ := blk10 k_m
    go_wp2_with fail
    clear x0k x1k x2k x3k x4k x5k x6k x7k x8k x9k xlk x0m x1m x2m x3m x4m x5m x6m x7m x8m x9m xlm
    have q_w := blk_lt k_w
    have q_k := blk_lt k_k
    have q_m := blk_lt k_m
    obtain ⟨w11, e_⟩ : ∃ x, x = (w10.alloc (.cells #[.int .i64 d1, .int .i64 f1, .slice N1 ss1.length n1, .int .i64 d2, .int .i64 f2, .slice N2 ss2.length n2, .slice N3 st.length n3, .slice N4 Q.length n4, .slice N5 pq.length n5, .int .i64 mq] 33)) := ⟨_, rfl⟩
    have hX_ : Boxy w10 w11 := by rw [e_]; exact boxy
    have z_ : Below w.heap.size w10 w11 := by rw [e_]; exact bel
    replace k_w := hkw e_ (blk_alloc k_w _)
    replace k_k := hkw e_ (blk_alloc k_k _)
    replace k_m := hkw e_ (blk_alloc k_m _)
    have k_n : w11.heap[w10.heap.size]? = some (.cells #[.int .i64 d1, .int .i64 f1, .slice N1 ss1.length n1, .int .i64 d2, .int .i64 f2, .slice N2 ss2.length n2, .slice N3 st.length n3, .slice N4 Q.length n4, .slice N5 pq.length n5, .int .i64 mq] 33 (0, 0)) := by rw [e_]; exact (blk_new_at _ _ (by simp))
    replace o_W := o_W.boxy hX_
    replace o_M := o_M.boxy hX_
    replace G_ : Below w.heap.size w w11 := G_.trans z_
    have s_w11 : w10.heap.size ≤ w11.heap.size := by rw [e_]; simp [World.setCell]; try omega
    obtain ⟨bn, eb_⟩ : ∃ x, x = w10.heap.size := ⟨_, rfl⟩
    rw [← eb_] at k_n
    have l_n : w.heap.size ≤ bn := by omega
    have d_wn : bw < bn := by omega
    have d_kn : bk < bn := by omega
    have d_mn : bm < bn := by omega
    have eb_n := eb_; clear eb_
    rw [← e_]
    clear e_ hX_ z_ q_w q_k q_m
    try rw [← eb_n]
    clear eb_n
    clear k_n
    refine (HFORG.out M1 m1 M2 m2 M3 m3 M4 m4 M5 m5 _ _ w11 o_M).mono ?_
    rintro e w12 ⟨H1, h1, H2, h2, H3, h3, H4, h4, H5, h5, rfl, o_F, z_⟩
    replace k_w := blk_next k_w z_
    replace k_k := blk_next k_k z_
    replace k_m := blk_next k_m z_
    replace o_W := o_W.below z_
    replace o_M := o_M.below z_
    replace G_ := G_.trans (z_.mono G_.size)
    have s_w12 := z_.size
    clear z_
    clear o_M
    clear k_m
    clear k_k
    go_wp2_with fail
    have q_w := blk_lt k_w
    obtain ⟨w13, e_⟩ : ∃ x, x = (w12.alloc (.cells #[.int .i64 d1, .int .i64 f1, .slice H1 ss1.length h1, .int .i64 d2, .int .i64 f2, .slice H2 ss2.length h2, .slice H3 st.length h3, .slice H4 P.length h4, .slice H5 pr.length h5, .int .i64 mr] 33)) := ⟨_, rfl⟩
    have hX_ : Boxy w12 w13 := by rw [e_]; exact boxy
    have z_ : Below w.heap.size w12 w13 := by rw [e_]; exact bel
    replace k_w := hkw e_ (blk_alloc k_w _)
    have k_f : w13.heap[w12.heap.size]? = some (.cells #[.int .i64 d1, .int .i64 f1, .slice H1 ss1.length h1, .int .i64 d2, .int .i64 f2, .slice H2 ss2.length h2, .slice H3 st.length h3, .slice H4 P.length h4, .slice H5 pr.length h5, .int .i64 mr] 33 (0, 0)) := by rw [e_]; exact (blk_new_at _ _ (by simp))
    replace o_W := o_W.boxy hX_
    replace o_F := o_F.boxy hX_
    replace G_ : Below w.heap.size w w13 := G_.trans z_
    have s_w13 : w12.heap.size ≤ w13.heap.size := by rw [e_]; simp [World.setCell]; try omega
    obtain ⟨bf, eb_⟩ : ∃ x, x = w12.heap.size := ⟨_, rfl⟩
    rw [← eb_] at k_f
    have l_f : w.heap.size ≤ bf := by omega
    have d_wf : bw < bf := by omega
    have eb_f := eb_; clear eb_
    rw [← e_]
    clear e_ hX_ z_ q_w
    try rw [← eb_f]
    clear eb_f
    refine (HNONE.out H1 h1 H2 h2 H3 h3 H4 h4 H5 h5 _ _ w13 o_F).mono ?_
    rintro e w14 ⟨N1, n1, N2, n2, N3, n3, N4, n4, N5, n5, rfl, o_N, z_⟩
    replace k_w := blk_next k_w z_
    replace k_f := blk_next k_f z_
    replace o_W := o_W.below z_
    replace o_F := o_F.below z_
    replace G_ := G_.trans (z_.mono G_.size)
    have s_w14 := z_.size
    clear z_
    clear o_F
    clear o_N
    obtain ⟨x0w, x1w, x2w, x3w, x4w, x5w, x6w, x7w, x8w, x9w, xlw⟩ := blk10 k_w
    go_wp2
    clear x0w x1w x2w x3w x4w x5w x6w x7w x8w x9w xlw
    have q_w := blk_lt k_w
    have q_f := blk_lt k_f
    obtain ⟨w15, e_⟩ : ∃ x, x = (w14.alloc (.cells #[.int .i64 d1, .int .i64 f1, .slice N1 ss1.length n1, .int .i64 d2, .int .i64 f2, .slice N2 ss2.length n2, .slice N3 st.length n3, .slice N4 P.length n4, .slice N5 pr.length n5, .int .i64 mr] 33)) := ⟨_, rfl⟩
    have hX_ : Boxy w14 w15 := by rw [e_]; exact boxy
    have z_ : Below w.heap.size w14 w15 := by rw [e_]; exact bel
    replace k_w := hkw e_ (blk_alloc k_w _)
    replace k_f := hkw e_ (blk_alloc k_f _)
    have k_n : w15.heap[w14.heap.size]? = some (.cells #[.int .i64 d1, .int .i64 f1, .slice N1 ss1.length n1, .int .i64 d2, .int .i64 f2, .slice N2 ss2.length n2, .slice N3 st.length n3, .slice N4 P.length n4, .slice N5 pr.length n5, .int .i64 mr] 33 (0, 0)) := by rw [e_]; exact (blk_new_at _ _ (by simp))
    replace o_W := o_W.boxy hX_
    replace G_ : Below w.heap.size w w15 := G_.trans z_
    have s_w15 : w14.heap.size ≤ w15.heap.size := by rw [e_]; simp [World.setCell]; try omega
    obtain ⟨bn, eb_⟩ : ∃ x, x = w14.heap.size := ⟨_, rfl⟩
    rw [← eb_] at k_n
    have l_n : w.heap.size ≤ bn := by omega
    have d_wn : bw < bn := by omega
    have d_fn : bf < bn := by omega
    have eb_n := eb_; clear eb_
    rw [← e_]
    clear e_ hX_ z_ q_w q_f
    try rw [← eb_n]
    clear eb_n
    clear k_n
    obtain ⟨x0w, x1w, x2w, x3w, x4w, x5w, x6w, x7w, x8w, x9w, xlw⟩ := blk10 k_w
    obtain ⟨l1q, h1q, l2q, h2q, l3q, h3q, Lq, hrq, haq, xq, hpq_, yq, zq⟩ := o_W.all
    have hsn : w15.ownsRow l1q 9 1 (.slice A2 ss2.length c2) ss2.length (ss2.map Value.string) := xq.o2.row
    clear hrq haq xq hpq_ yq zq
    obtain ⟨gS, cap, hv, hbg, hglt⟩ := hsn.form hl0
    have hA2 : A2 = some ⟨gS, 0, none⟩ := by injection hv
    subst hA2
    clear hv
    have hl0i : (0 : Int) < (ss2.length : Int) := by omega
    have hcs1 : w15.cell? ⟨gS, 0, none⟩ = some (.string ss0) := by rw [hsn.cellAt 0 (by omega), List.getElem?_map, List.getElem?_eq_getElem hl0, hss0]; rfl
    clear hsn
    go_cut [17] (fun s17 wx => ∃ g : Nat, s17 = .pointer (some ⟨g, 0, none⟩) ∧ wx.heap[g]? = some (.cells #[.int .i64 3, .int .i64 0, .int .i64 0, .int .i64 0, .int .i64 0, .string ss0, .string ss0] 54 (0, 0)) ∧ w15.heap.size ≤ g ∧ Below w15.heap.size w15 wx)
    case first =>
      go_region_held3 (fun W => (∀ p : Addr, p.block < w15.heap.size → W.cell? p = (w15).cell? p) ∧ (∀ p : Addr, p.block < w15.heap.size → W.frozen? p = (w15).frozen? p) ∧ Below (w15.heap.size) (w15) W) (exact keep_ofP bel) (fail)
      all_goals (go_wp2_with fail)
      all_goals (go_meet)
      all_goals (refine ⟨_, rfl, ?_, ?_, ?_⟩; (repeat (first | (with_reducible exact blk_new_at _ _ (by first | rfl | (simp; done))) | (with_reducible refine blk_drew ?_))); (first | exact Nat.le_refl _ | (simp; done)); (exact bel))
    obtain ⟨bs_, rfl, k_t, ht9, hb_c⟩ := hcut
    obtain ⟨w90, hwc⟩ : ∃ Q9 : World, Q9 = wc := ⟨_, rfl⟩
    subst hwc
    clear x0w x1w x2w x3w x4w x5w x6w x7w x8w x9w xlw
    replace k_w := blk_below k_w hb_c (blk_lt k_w)
    replace k_f := blk_below k_f hb_c (blk_lt k_f)
    replace o_W := o_W.below hb_c
    replace G_ := G_.trans (hb_c.mono G_.size)
    have s_w90 := hb_c.size
    clear hb_c hcs1 ht9 hbg hglt
    obtain ⟨x0w, x1w, x2w, x3w, x4w, x5w, x6w, x7w, x8w, x9w, xlw⟩ := blk10 k_w
    obtain ⟨x0t, x1t, x2t, x3t, x4t, x5t, x6t, xlt⟩ := blk7 k_t
    go_wp2_with fail
    clear x0w x1w x2w x3w x4w x5w x6w x7w x8w x9w xlw x0t x1t x2t x3t x4t x5t x6t xlt
    clear k_t
    refine (HSHAPE.out A1 c1 (some ⟨gS, 0, none⟩) c2 A3 c3 A4 c4 A5 c5 _ _ w90 o_W).mono ?_
    rintro e w91 ⟨S1, s1, S2, s2, S3, s3, S4, s4, S5, s5, rfl, o_S, z_⟩
    replace k_w := blk_next k_w z_
    replace k_f := blk_next k_f z_
    replace o_W := o_W.below z_
    replace G_ := G_.trans (z_.mono G_.size)
    have s_w91 := z_.size
    clear z_
    go_wp2_with fail
    have q_w := blk_lt k_w
    have q_f := blk_lt k_f
    obtain ⟨w92, e_⟩ : ∃ x, x = (w91.alloc (.cells #[.int .i64 d1, .int .i64 f1, .slice S1 ss1.length s1, .int .i64 d2, .int .i64 f2, .slice S2 ss2.length s2, .slice S3 sv.length s3, .slice S4 P.length s4, .slice S5 pp.length s5, .int .i64 mS] 33)) := ⟨_, rfl⟩
    have hX_ : Boxy w91 w92 := by rw [e_]; exact boxy
    have z_ : Below w.heap.size w91 w92 := by rw [e_]; exact bel
    replace k_w := hkw e_ (blk_alloc k_w _)
    replace k_f := hkw e_ (blk_alloc k_f _)
    have k_s : w92.heap[w91.heap.size]? = some (.cells #[.int .i64 d1, .int .i64 f1, .slice S1 ss1.length s1, .int .i64 d2, .int .i64 f2, .slice S2 ss2.length s2, .slice S3 sv.length s3, .slice S4 P.length s4, .slice S5 pp.length s5, .int .i64 mS] 33 (0, 0)) := by rw [e_]; exact (blk_new_at _ _ (by simp))
    replace o_W := o_W.boxy hX_
    replace o_S := o_S.boxy hX_
    replace G_ : Below w.heap.size w w92 := G_.trans z_
    have s_w92 : w91.heap.size ≤ w92.heap.size := by rw [e_]; simp [World.setCell]; try omega
    obtain ⟨bs, eb_⟩ : ∃ x, x = w91.heap.size := ⟨_, rfl⟩
    rw [← eb_] at k_s
    have l_s : w.heap.size ≤ bs := by omega
    have d_ws : bw < bs := by omega
    have d_fs : bf < bs := by omega
    have eb_s := eb_; clear eb_
    rw [← e_]
    clear e_ hX_ z_ q_w q_f
    try rw [← eb_s]
    clear eb_s
    refine (HBACK.out S1 s1 S2 s2 S3 s3 S4 s4 S5 s5 _ _ w92 o_S).mono ?_
    rintro e w93 ⟨U1, u1, U2, u2, U3, u3, U4, u4, U5, u5, rfl, o_U, z_⟩
    replace k_w := blk_next k_w z_
    replace k_f := blk_next k_f z_
    replace k_s := blk_next k_s z_
    replace o_W := o_W.below z_
    replace o_S := o_S.below z_
    replace G_ := G_.trans (z_.mono G_.size)
    have s_w93 := z_.size
    clear z_
    clear o_S
    cases sh
    · skip
      have hm3 : ¬ 1 ≤ m := of_decide_eq_false R_can.symm
      clear R_yes R_can
      obtain ⟨x0f, x1f, x2f, x3f, x4f, x5f, x6f, x7f, x8f, x9f, xlf⟩ := blk10 k_f
      obtain ⟨x0w, x1w, x2w, x3w, x4w, x5w, x6w, x7w, x8w, x9w, xlw⟩ := blk10 k_w
      obtain ⟨x0s, x1s, x2s, x3s, x4s, x5s, x6s, x7s, x8s, x9s, xls⟩ := blk10 k_s
      go_wp2_with fail
      clear x0f x1f x2f x3f x4f x5f x6f x7f x8f x9f xlf x0w x1w x2w x3w x4w x5w x6w x7w x8w x9w xlw x0s x1s x2s x3s x4s x5s x6s x7s x8s x9s xls
      have q_w := blk_lt k_w
      have q_f := blk_lt k_f
      have q_s := blk_lt k_s
      obtain ⟨w94, e_⟩ : ∃ x, x = (w93.alloc (.cells #[.int .i64 du1, .int .i64 fu1, .slice U1 us1.length u1, .int .i64 du2, .int .i64 fu2, .slice U2 us2.length u2, .slice U3 ut.length u3, .slice U4 UP.length u4, .slice U5 up.length u5, .int .i64 um] 33)) := ⟨_, rfl⟩
      have hX_ : Boxy w93 w94 := by rw [e_]; exact boxy
      have z_ : Below w.heap.size w93 w94 := by rw [e_]; exact bel
      replace k_w := hkw e_ (blk_alloc k_w _)
      replace k_f := hkw e_ (blk_alloc k_f _)
      replace k_s := hkw e_ (blk_alloc k_s _)
      have k_u : w94.heap[w93.heap.size]? = some (.cells #[.int .i64 du1, .int .i64 fu1, .slice U1 us1.length u1, .int .i64 du2, .int .i64 fu2, .slice U2 us2.length u2, .slice U3 ut.length u3, .slice U4 UP.length u4, .slice U5 up.length u5, .int .i64 um] 33 (0, 0)) := by rw [e_]; exact (blk_new_at _ _ (by simp))
      replace o_W := o_W.boxy hX_
      replace o_U := o_U.boxy hX_
      replace G_ : Below w.heap.size w w94 := G_.trans z_
      have s_w94 : w93.heap.size ≤ w94.heap.size := by rw [e_]; simp [World.setCell]; try omega
      obtain ⟨bu, eb_⟩ : ∃ x, x = w93.heap.size := ⟨_, rfl⟩
      rw [← eb_] at k_u
      have l_u : w.heap.size ≤ bu := by omega
      have d_wu : bw < bu := by omega
      have d_fu : bf < bu := by omega
      have d_su : bs < bu := by omega
      have eb_u := eb_; clear eb_
      rw [← e_]
      clear e_ hX_ z_ q_w q_f q_s
      try rw [← eb_u]
      clear eb_u
      refine (HOKU.out U1 u1 U2 u2 U3 u3 U4 u4 U5 u5 _ _ w94 o_U).mono ?_
      rintro e w95 ⟨rfl, z_⟩
      replace k_w := blk_next k_w z_
      replace k_f := blk_next k_f z_
      replace k_s := blk_next k_s z_
      replace k_u := blk_next k_u z_
      replace o_W := o_W.below z_
      replace o_U := o_U.below z_
      replace G_ := G_.trans (z_.mono G_.size)
      have s_w95 := z_.size
      clear z_
      go_wp2
      go_ret
      exact ⟨rfl, G_⟩
    · skip
      have hm3 : 1 ≤ m := of_decide_eq_true R_can.symm
      obtain ⟨rfl, rfl, hUD⟩ := R_yes rfl
      injection hUD with e1 e2 e3 e4 e5 e6 e7
      replace e1 := e1.symm
      replace e2 := e2.symm
      replace e3 := e3.symm
      replace e4 := e4.symm
      replace e5 := e5.symm
      replace e6 := e6.symm
      replace e7 := e7.symm
      subst e1 e2 e3 e4 e5 e6 e7
      clear R_yes R_can
      obtain ⟨x0f, x1f, x2f, x3f, x4f, x5f, x6f, x7f, x8f, x9f, xlf⟩ := blk10 k_f
      obtain ⟨x0w, x1w, x2w, x3w, x4w, x5w, x6w, x7w, x8w, x9w, xlw⟩ := blk10 k_w
      obtain ⟨x0s, x1s, x2s, x3s, x4s, x5s, x6s, x7s, x8s, x9s, xls⟩ := blk10 k_s
      go_wp2_with fail
      clear x0f x1f x2f x3f x4f x5f x6f x7f x8f x9f xlf x0w x1w x2w x3w x4w x5w x6w x7w x8w x9w xlw x0s x1s x2s x3s x4s x5s x6s x7s x8s x9s xls
      have q_w := blk_lt k_w
      have q_f := blk_lt k_f
      have q_s := blk_lt k_s
      obtain ⟨w94, e_⟩ : ∃ x, x = (w93.alloc (.cells #[.int .i64 d1, .int .i64 f1, .slice U1 ss1.length u1, .int .i64 d2, .int .i64 f2, .slice U2 ss2.length u2, .slice U3 st.length u3, .slice U4 UP.length u4, .slice U5 up.length u5, .int .i64 um] 33)) := ⟨_, rfl⟩
      have hX_ : Boxy w93 w94 := by rw [e_]; exact boxy
      have z_ : Below w.heap.size w93 w94 := by rw [e_]; exact bel
      replace k_w := hkw e_ (blk_alloc k_w _)
      replace k_f := hkw e_ (blk_alloc k_f _)
      replace k_s := hkw e_ (blk_alloc k_s _)
      have k_u : w94.heap[w93.heap.size]? = some (.cells #[.int .i64 d1, .int .i64 f1, .slice U1 ss1.length u1, .int .i64 d2, .int .i64 f2, .slice U2 ss2.length u2, .slice U3 st.length u3, .slice U4 UP.length u4, .slice U5 up.length u5, .int .i64 um] 33 (0, 0)) := by rw [e_]; exact (blk_new_at _ _ (by simp))
      replace o_W := o_W.boxy hX_
      replace o_U := o_U.boxy hX_
      replace G_ : Below w.heap.size w w94 := G_.trans z_
      have s_w94 : w93.heap.size ≤ w94.heap.size := by rw [e_]; simp [World.setCell]; try omega
      obtain ⟨bu, eb_⟩ : ∃ x, x = w93.heap.size := ⟨_, rfl⟩
      rw [← eb_] at k_u
      have l_u : w.heap.size ≤ bu := by omega
      have d_wu : bw < bu := by omega
      have d_fu : bf < bu := by omega
      have d_su : bs < bu := by omega
      have eb_u := eb_; clear eb_
      rw [← e_]
      clear e_ hX_ z_ q_w q_f q_s
      try rw [← eb_u]
      clear eb_u
      refine (s_SameCard d2 f2 d2 f2 w94.heap.size U2 (some ⟨gS, 0, none⟩) ss2.length u2 ss2.length c2 ss2 ss2 w94 (o_U.rd (HRZ2.out.more (by omega))).d.s2 (o_W.rd (HZ.out.more (by omega))).d.s2 (Nat.le_refl _)).mono ?_
      rintro e w95 ⟨rfl, z_⟩
      replace k_w := blk_next k_w z_
      replace k_f := blk_next k_f z_
      replace k_s := blk_next k_s z_
      replace k_u := blk_next k_u z_
      replace o_W := o_W.below z_
      replace o_U := o_U.below z_
      replace G_ := G_.trans (z_.mono G_.size)
      have s_w95 := z_.size
      clear z_
      rw [sameCard_iff.2 ⟨rfl, rfl, rfl⟩]
      obtain ⟨x0u, x1u, x2u, x3u, x4u, x5u, x6u, x7u, x8u, x9u, xlu⟩ := blk10 k_u
      obtain ⟨x0w, x1w, x2w, x3w, x4w, x5w, x6w, x7w, x8w, x9w, xlw⟩ := blk10 k_w
      go_wp2_with fail
      clear x0u x1u x2u x3u x4u x5u x6u x7u x8u x9u xlu x0w x1w x2w x3w x4w x5w x6w x7w x8w x9w xlw
      refine (HOKU.out U1 u1 U2 u2 U3 u3 U4 u4 U5 u5 _ _ w95 o_U).mono ?_
      rintro e w96 ⟨rfl, z_⟩
      replace k_w := blk_next k_w z_
      replace k_f := blk_next k_f z_
      replace k_s := blk_next k_s z_
      replace k_u := blk_next k_u z_
      replace o_W := o_W.below z_
      replace o_U := o_U.below z_
      replace G_ := G_.trans (z_.mono G_.size)
      have s_w96 := z_.size
      clear z_
      go_wp2
      go_ret
      exact ⟨rfl, G_⟩
  · skip
    obtain ⟨rfl, hsq, rfl, hsr⟩ := S_yes rfl
    have hm2 : 2 * n ≤ m := of_decide_eq_true S_can.symm
    clear S_yes S_can
    go_wp2_with fail
    obtain ⟨w2, e_⟩ : ∃ x, x = (w1.alloc (.cells #[.int .i64 d1, .int .i64 f1, .slice A1 ss1.length c1, .int .i64 d2, .int .i64 f2, .slice A2 ss2.length c2, .slice A3 st.length c3, .slice A4 P.length c4, .slice A5 pp.length c5, .int .i64 m] 33)) := ⟨_, rfl⟩
    have hX_ : Boxy w1 w2 := by rw [e_]; exact boxy
    have z_ : Below w.heap.size w1 w2 := by rw [e_]; exact bel
    have k_w : w2.heap[w1.heap.size]? = some (.cells #[.int .i64 d1, .int .i64 f1, .slice A1 ss1.length c1, .int .i64 d2, .int .i64 f2, .slice A2 ss2.length c2, .slice A3 st.length c3, .slice A4 P.length c4, .slice A5 pp.length c5, .int .i64 m] 33 (0, 0)) := by rw [e_]; exact (blk_new_at _ _ (by simp))
    replace o_W := o_W.boxy hX_
    replace G_ : Below w.heap.size w w2 := G_.trans z_
    have s_w2 : w1.heap.size ≤ w2.heap.size := by rw [e_]; simp [World.setCell]; try omega
    obtain ⟨bw, eb_⟩ : ∃ x, x = w1.heap.size := ⟨_, rfl⟩
    rw [← eb_] at k_w
    have l_w : w.heap.size ≤ bw := by omega
    have eb_w := eb_; clear eb_
    rw [← e_]
    clear e_ hX_ z_ 
    try rw [← eb_w]
    clear eb_w
    refine (HA.out w2 (hK.below G_)).mono ?_
    rintro e w' ⟨rfl, rfl⟩
    obtain ⟨x0w, x1w, x2w, x3w, x4w, x5w, x6w, x7w, x8w, x9w, xlw⟩ := blk10 k_w
    go_wp2_with fail
    clear x0w x1w x2w x3w x4w x5w x6w x7w x8w x9w xlw
    try rw [HNN.out]
    refine (HBUY.out A1 c1 A2 c2 A3 c3 A4 c4 A5 c5 _ _ w2 o_W).mono ?_
    rintro e w3 ⟨B1, b1, B2, b2, B3, b3, B4, b4, B5, b5, rfl, o_P, z_⟩
    replace k_w := blk_next k_w z_
    replace o_W := o_W.below z_
    replace G_ := G_.trans (z_.mono G_.size)
    have s_w3 := z_.size
    clear z_
    obtain ⟨x0w, x1w, x2w, x3w, x4w, x5w, x6w, x7w, x8w, x9w, xlw⟩ := blk10 k_w
    go_wp2_with fail
    clear x0w x1w x2w x3w x4w x5w x6w x7w x8w x9w xlw
    have q_w := blk_lt k_w
    obtain ⟨w4, e_⟩ : ∃ x, x = (w3.alloc (.cells #[.int .i64 d1, .int .i64 f1, .slice B1 ss1.length b1, .int .i64 d2, .int .i64 f2, .slice B2 ss2.length b2, .slice B3 st.length b3, .slice B4 P.length b4, .slice B5 pq.length b5, .int .i64 (m - 2 * n)] 33)) := ⟨_, rfl⟩
    have hX_ : Boxy w3 w4 := by rw [e_]; exact boxy
    have z_ : Below w.heap.size w3 w4 := by rw [e_]; exact bel
    replace k_w := hkw e_ (blk_alloc k_w _)
    have k_p : w4.heap[w3.heap.size]? = some (.cells #[.int .i64 d1, .int .i64 f1, .slice B1 ss1.length b1, .int .i64 d2, .int .i64 f2, .slice B2 ss2.length b2, .slice B3 st.length b3, .slice B4 P.length b4, .slice B5 pq.length b5, .int .i64 (m - 2 * n)] 33 (0, 0)) := by rw [e_]; exact (blk_new_at _ _ (by simp))
    replace o_W := o_W.boxy hX_
    replace o_P := o_P.boxy hX_
    replace G_ : Below w.heap.size w w4 := G_.trans z_
    have s_w4 : w3.heap.size ≤ w4.heap.size := by rw [e_]; simp [World.setCell]; try omega
    obtain ⟨bp, eb_⟩ : ∃ x, x = w3.heap.size := ⟨_, rfl⟩
    rw [← eb_] at k_p
    have l_p : w.heap.size ≤ bp := by omega
    have d_wp : bw < bp := by omega
    have eb_p := eb_; clear eb_
    rw [← e_]
    clear e_ hX_ z_ q_w
    try rw [← eb_p]
    clear eb_p
    refine (HSQ.out B1 b1 B2 b2 B3 b3 B4 b4 B5 b5 _ _ w4 o_P).mono ?_
    rintro e w5 ⟨rfl, z_⟩
    replace k_w := blk_next k_w z_
    replace k_p := blk_next k_p z_
    replace o_W := o_W.below z_
    replace o_P := o_P.below z_
    replace G_ := G_.trans (z_.mono G_.size)
    have s_w5 := z_.size
    clear z_
    rw [hsq]
    obtain ⟨x0p, x1p, x2p, x3p, x4p, x5p, x6p, x7p, x8p, x9p, xlp⟩ := blk10 k_p
    go_wp2_with fail
    clear x0p x1p x2p x3p x4p x5p x6p x7p x8p x9p xlp
    refine (HKEEP.out B1 b1 B2 b2 B3 b3 B4 b4 B5 b5 _ _ w5 o_P).mono ?_
    rintro e w6 ⟨E1, e1, E2, e2, E3, e3, E4, e4, E5, e5, rfl, o_K, z_⟩
    replace k_w := blk_next k_w z_
    replace k_p := blk_next k_p z_
    replace o_W := o_W.below z_
    replace o_P := o_P.below z_
    replace G_ := G_.trans (z_.mono G_.size)
    have s_w6 := z_.size
    clear z_
    clear o_P
    clear k_p
    go_wp2_with fail
    have q_w := blk_lt k_w
    obtain ⟨w7, e_⟩ : ∃ x, x = (w6.alloc (.cells #[.int .i64 d1, .int .i64 f1, .slice E1 ss1.length e1, .int .i64 d2, .int .i64 f2, .slice E2 ss2.length e2, .slice E3 st.length e3, .slice E4 Q.length e4, .slice E5 pq.length e5, .int .i64 (m - 2 * n)] 33)) := ⟨_, rfl⟩
    have hX_ : Boxy w6 w7 := by rw [e_]; exact boxy
    have z_ : Below w.heap.size w6 w7 := by rw [e_]; exact bel
    replace k_w := hkw e_ (blk_alloc k_w _)
    have k_k : w7.heap[w6.heap.size]? = some (.cells #[.int .i64 d1, .int .i64 f1, .slice E1 ss1.length e1, .int .i64 d2, .int .i64 f2, .slice E2 ss2.length e2, .slice E3 st.length e3, .slice E4 Q.length e4, .slice E5 pq.length e5, .int .i64 (m - 2 * n)] 33 (0, 0)) := by rw [e_]; exact (blk_new_at _ _ (by simp))
    replace o_W := o_W.boxy hX_
    replace o_K := o_K.boxy hX_
    replace G_ : Below w.heap.size w w7 := G_.trans z_
    have s_w7 : w6.heap.size ≤ w7.heap.size := by rw [e_]; simp [World.setCell]; try omega
    obtain ⟨bk, eb_⟩ : ∃ x, x = w6.heap.size := ⟨_, rfl⟩
    rw [← eb_] at k_k
    have l_k : w.heap.size ≤ bk := by omega
    have d_wk : bw < bk := by omega
    have eb_k := eb_; clear eb_
    rw [← e_]
    clear e_ hX_ z_ q_w
    try rw [← eb_k]
    clear eb_k
    refine (HOK1.out E1 e1 E2 e2 E3 e3 E4 e4 E5 e5 _ _ w7 o_K).mono ?_
    rintro e w8 ⟨rfl, z_⟩
    replace k_w := blk_next k_w z_
    replace k_k := blk_next k_k z_
    replace o_W := o_W.below z_
    replace o_K := o_K.below z_
    replace G_ := G_.trans (z_.mono G_.size)
    have s_w8 := z_.size
    clear z_
    obtain ⟨x0k, x1k, x2k, x3k, x4k, x5k, x6k, x7k, x8k, x9k, xlk⟩ := blk10 k_k
    go_wp2_with fail
    clear x0k x1k x2k x3k x4k x5k x6k x7k x8k x9k xlk
    refine (HMAKE.out E1 e1 E2 e2 E3 e3 E4 e4 E5 e5 _ _ w8 o_K).mono ?_
    rintro e w9 ⟨M1, m1, M2, m2, M3, m3, M4, m4, M5, m5, rfl, o_M, z_⟩
    replace k_w := blk_next k_w z_
    replace k_k := blk_next k_k z_
    replace o_W := o_W.below z_
    replace o_K := o_K.below z_
    replace G_ := G_.trans (z_.mono G_.size)
    have s_w9 := z_.size
    clear z_
    obtain ⟨x0k, x1k, x2k, x3k, x4k, x5k, x6k, x7k, x8k, x9k, xlk⟩ := blk10 k_k
    go_wp2_with fail
    clear x0k x1k x2k x3k x4k x5k x6k x7k x8k x9k xlk
    have q_w := blk_lt k_w
    have q_k := blk_lt k_k
    obtain ⟨w10, e_⟩ : ∃ x, x = (w9.alloc (.cells #[.int .i64 d1, .int .i64 f1, .slice M1 ss1.length m1, .int .i64 d2, .int .i64 f2, .slice M2 ss2.length m2, .slice M3 st.length m3, .slice M4 Q.length m4, .slice M5 pr.length m5, .int .i64 (m - 2 * n + 5 * n)] 33)) := ⟨_, rfl⟩
    have hX_ : Boxy w9 w10 := by rw [e_]; exact boxy
    have z_ : Below w.heap.size w9 w10 := by rw [e_]; exact bel
    replace k_w := hkw e_ (blk_alloc k_w _)
    replace k_k := hkw e_ (blk_alloc k_k _)
    have k_m : w10.heap[w9.heap.size]? = some (.cells #[.int .i64 d1, .int .i64 f1, .slice M1 ss1.length m1, .int .i64 d2, .int .i64 f2, .slice M2 ss2.length m2, .slice M3 st.length m3, .slice M4 Q.length m4, .slice M5 pr.length m5, .int .i64 (m - 2 * n + 5 * n)] 33 (0, 0)) := by rw [e_]; exact (blk_new_at _ _ (by simp))
    replace o_W := o_W.boxy hX_
    replace o_K := o_K.boxy hX_
    replace o_M := o_M.boxy hX_
    replace G_ : Below w.heap.size w w10 := G_.trans z_
    have s_w10 : w9.heap.size ≤ w10.heap.size := by rw [e_]; simp [World.setCell]; try omega
    obtain ⟨bm, eb_⟩ : ∃ x, x = w9.heap.size := ⟨_, rfl⟩
    rw [← eb_] at k_m
    have l_m : w.heap.size ≤ bm := by omega
    have d_wm : bw < bm := by omega
    have d_km : bk < bm := by omega
    have eb_m := eb_; clear eb_
    rw [← e_]
    clear e_ hX_ z_ q_w q_k
    try rw [← eb_m]
    clear eb_m
    refine (HMORE.out E1 e1 E2 e2 E3 e3 E4 e4 E5 e5 _ _ w10 o_K).mono ?_
    rintro e w11 ⟨N1, n1, N2, n2, N3, n3, N4, n4, N5, n5, rfl, o_N, z_⟩
    replace k_w := blk_next k_w z_
    replace k_k := blk_next k_k z_
    replace k_m := blk_next k_m z_
    replace o_W := o_W.below z_
    replace o_K := o_K.below z_
    replace o_M := o_M.below z_
    replace G_ := G_.trans (z_.mono G_.size)
    have s_w11 := z_.size
    clear z_
    clear o_K
    clear o_N
    obtain ⟨x0k, x1k, x2k, x3k, x4k, x5k, x6k, x7k, x8k, x9k, xlk⟩ := blk10 k_k
    obtain ⟨x0m, x1m, x2m, x3m, x4m, x5m, x6m, x7m, x8m, x9m, xlm⟩ := blk10 k_m
    go_wp2_with fail
    clear x0k x1k x2k x3k x4k x5k x6k x7k x8k x9k xlk x0m x1m x2m x3m x4m x5m x6m x7m x8m x9m xlm
    have q_w := blk_lt k_w
    have q_k := blk_lt k_k
    have q_m := blk_lt k_m
    obtain ⟨w12, e_⟩ : ∃ x, x = (w11.alloc (.cells #[.int .i64 d1, .int .i64 f1, .slice N1 ss1.length n1, .int .i64 d2, .int .i64 f2, .slice N2 ss2.length n2, .slice N3 st.length n3, .slice N4 Q.length n4, .slice N5 pq.length n5, .int .i64 (m - 2 * n)] 33)) := ⟨_, rfl⟩
    have hX_ : Boxy w11 w12 := by rw [e_]; exact boxy
    have z_ : Below w.heap.size w11 w12 := by rw [e_]; exact bel
    replace k_w := hkw e_ (blk_alloc k_w _)
    replace k_k := hkw e_ (blk_alloc k_k _)
    replace k_m := hkw e_ (blk_alloc k_m _)
    have k_n : w12.heap[w11.heap.size]? = some (.cells #[.int .i64 d1, .int .i64 f1, .slice N1 ss1.length n1, .int .i64 d2, .int .i64 f2, .slice N2 ss2.length n2, .slice N3 st.length n3, .slice N4 Q.length n4, .slice N5 pq.length n5, .int .i64 (m - 2 * n)] 33 (0, 0)) := by rw [e_]; exact (blk_new_at _ _ (by simp))
    replace o_W := o_W.boxy hX_
    replace o_M := o_M.boxy hX_
    replace G_ : Below w.heap.size w w12 := G_.trans z_
    have s_w12 : w11.heap.size ≤ w12.heap.size := by rw [e_]; simp [World.setCell]; try omega
    obtain ⟨bn, eb_⟩ : ∃ x, x = w11.heap.size := ⟨_, rfl⟩
    rw [← eb_] at k_n
    have l_n : w.heap.size ≤ bn := by omega
    have d_wn : bw < bn := by omega
    have d_kn : bk < bn := by omega
    have d_mn : bm < bn := by omega
    have eb_n := eb_; clear eb_
    rw [← e_]
    clear e_ hX_ z_ q_w q_k q_m
    try rw [← eb_n]
    clear eb_n
    clear k_n
    refine (HSR.out M1 m1 M2 m2 M3 m3 M4 m4 M5 m5 _ _ w12 o_M).mono ?_
    rintro e w13 ⟨rfl, z_⟩
    replace k_w := blk_next k_w z_
    replace k_k := blk_next k_k z_
    replace k_m := blk_next k_m z_
    replace o_W := o_W.below z_
    replace o_M := o_M.below z_
    replace G_ := G_.trans (z_.mono G_.size)
    have s_w13 := z_.size
    clear z_
    rw [hsr]
    obtain ⟨x0m, x1m, x2m, x3m, x4m, x5m, x6m, x7m, x8m, x9m, xlm⟩ := blk10 k_m
    go_wp2_with fail
    clear x0m x1m x2m x3m x4m x5m x6m x7m x8m x9m xlm
    refine (HOK2.out M1 m1 M2 m2 M3 m3 M4 m4 M5 m5 _ _ w13 o_M).mono ?_
    rintro e w14 ⟨rfl, z_⟩
    replace k_w := blk_next k_w z_
    replace k_k := blk_next k_k z_
    replace k_m := blk_next k_m z_
    replace o_W := o_W.below z_
    replace o_M := o_M.below z_
    replace G_ := G_.trans (z_.mono G_.size)
    have s_w14 := z_.size
    clear z_
    obtain ⟨x0m, x1m, x2m, x3m, x4m, x5m, x6m, x7m, x8m, x9m, xlm⟩ := blk10 k_m
    go_wp2_with fail
    clear x0m x1m x2m x3m x4m x5m x6m x7m x8m x9m xlm
    refine (HFORG.out M1 m1 M2 m2 M3 m3 M4 m4 M5 m5 _ _ w14 o_M).mono ?_
    rintro e w15 ⟨H1, h1, H2, h2, H3, h3, H4, h4, H5, h5, rfl, o_F, z_⟩
    replace k_w := blk_next k_w z_
    replace k_k := blk_next k_k z_
    replace k_m := blk_next k_m z_
    replace o_W := o_W.below z_
    replace o_M := o_M.below z_
    replace G_ := G_.trans (z_.mono G_.size)
    have s_w15 := z_.size
    clear z_
    clear o_M
    clear k_m
    clear k_k
    go_wp2_with fail
    have q_w := blk_lt k_w
    obtain ⟨w16, e_⟩ : ∃ x, x = (w15.alloc (.cells #[.int .i64 d1, .int .i64 f1, .slice H1 ss1.length h1, .int .i64 d2, .int .i64 f2, .slice H2 ss2.length h2, .slice H3 st.length h3, .slice H4 P.length h4, .slice H5 pr.length h5, .int .i64 (m - 2 * n + 5 * n)] 33)) := ⟨_, rfl⟩
    have hX_ : Boxy w15 w16 := by rw [e_]; exact boxy
    have z_ : Below w.heap.size w15 w16 := by rw [e_]; exact bel
    replace k_w := hkw e_ (blk_alloc k_w _)
    have k_f : w16.heap[w15.heap.size]? = some (.cells #[.int .i64 d1, .int .i64 f1, .slice H1 ss1.length h1, .int .i64 d2, .int .i64 f2, .slice H2 ss2.length h2, .slice H3 st.length h3, .slice H4 P.length h4, .slice H5 pr.length h5, .int .i64 (m - 2 * n + 5 * n)] 33 (0, 0)) := by rw [e_]; exact (blk_new_at _ _ (by simp))
    replace o_W := o_W.boxy hX_
    replace o_F := o_F.boxy hX_
    replace G_ : Below w.heap.size w w16 := G_.trans z_
    have s_w16 : w15.heap.size ≤ w16.heap.size := by rw [e_]; simp [World.setCell]; try omega
    obtain ⟨bf, eb_⟩ : ∃ x, x = w15.heap.size := ⟨_, rfl⟩
    rw [← eb_] at k_f
    have l_f : w.heap.size ≤ bf := by omega
    have d_wf : bw < bf := by omega
    have eb_f := eb_; clear eb_
    rw [← e_]
    clear e_ hX_ z_ q_w
    try rw [← eb_f]
    clear eb_f
    refine (HNONE.out H1 h1 H2 h2 H3 h3 H4 h4 H5 h5 _ _ w16 o_F).mono ?_
    rintro e w17 ⟨N1, n1, N2, n2, N3, n3, N4, n4, N5, n5, rfl, o_N, z_⟩
    replace k_w := blk_next k_w z_
    replace k_f := blk_next k_f z_
    replace o_W := o_W.below z_
    replace o_F := o_F.below z_
    replace G_ := G_.trans (z_.mono G_.size)
    have s_w17 := z_.size
    clear z_
    clear o_F
    clear o_N
    obtain ⟨x0w, x1w, x2w, x3w, x4w, x5w, x6w, x7w, x8w, x9w, xlw⟩ := blk10 k_w
    go_wp2
    clear x0w x1w x2w x3w x4w x5w x6w x7w x8w x9w xlw
    have q_w := blk_lt k_w
    have q_f := blk_lt k_f
    obtain ⟨w18, e_⟩ : ∃ x, x = (w17.alloc (.cells #[.int .i64 d1, .int .i64 f1, .slice N1 ss1.length n1, .int .i64 d2, .int .i64 f2, .slice N2 ss2.length n2, .slice N3 st.length n3, .slice N4 P.length n4, .slice N5 pr.length n5, .int .i64 (m - 2 * n + 5 * n)] 33)) := ⟨_, rfl⟩
    have hX_ : Boxy w17 w18 := by rw [e_]; exact boxy
    have z_ : Below w.heap.size w17 w18 := by rw [e_]; exact bel
    replace k_w := hkw e_ (blk_alloc k_w _)
    replace k_f := hkw e_ (blk_alloc k_f _)
    have k_n : w18.heap[w17.heap.size]? = some (.cells #[.int .i64 d1, .int .i64 f1, .slice N1 ss1.length n1, .int .i64 d2, .int .i64 f2, .slice N2 ss2.length n2, .slice N3 st.length n3, .slice N4 P.length n4, .slice N5 pr.length n5, .int .i64 (m - 2 * n + 5 * n)] 33 (0, 0)) := by rw [e_]; exact (blk_new_at _ _ (by simp))
    replace o_W := o_W.boxy hX_
    replace G_ : Below w.heap.size w w18 := G_.trans z_
    have s_w18 : w17.heap.size ≤ w18.heap.size := by rw [e_]; simp [World.setCell]; try omega
    obtain ⟨bn, eb_⟩ : ∃ x, x = w17.heap.size := ⟨_, rfl⟩
    rw [← eb_] at k_n
    have l_n : w.heap.size ≤ bn := by omega
    have d_wn : bw < bn := by omega
    have d_fn : bf < bn := by omega
    have eb_n := eb_; clear eb_
    rw [← e_]
    clear e_ hX_ z_ q_w q_f
    try rw [← eb_n]
    clear eb_n
    clear k_n
    obtain ⟨x0w, x1w, x2w, x3w, x4w, x5w, x6w, x7w, x8w, x9w, xlw⟩ := blk10 k_w
    obtain ⟨l1q, h1q, l2q, h2q, l3q, h3q, Lq, hrq, haq, xq, hpq_, yq, zq⟩ := o_W.all
    have hsn : w18.ownsRow l1q 9 1 (.slice A2 ss2.length c2) ss2.length (ss2.map Value.string) := xq.o2.row
    clear hrq haq xq hpq_ yq zq
    obtain ⟨gS, cap, hv, hbg, hglt⟩ := hsn.form hl0
    have hA2 : A2 = some ⟨gS, 0, none⟩ := by injection hv
    subst hA2
    clear hv
    have hl0i : (0 : Int) < (ss2.length : Int) := by omega
    have hcs1 : w18.cell? ⟨gS, 0, none⟩ = some (.string ss0) := by rw [hsn.cellAt 0 (by omega), List.getElem?_map, List.getElem?_eq_getElem hl0, hss0]; rfl
    clear hsn
    go_cut [17] (fun s17 wx => ∃ g : Nat, s17 = .pointer (some ⟨g, 0, none⟩) ∧ wx.heap[g]? = some (.cells #[.int .i64 3, .int .i64 0, .int .i64 0, .int .i64 0, .int .i64 0, .string ss0, .string ss0] 54 (0, 0)) ∧ w18.heap.size ≤ g ∧ Below w18.heap.size w18 wx)
    case first =>
      go_region_held3 (fun W => (∀ p : Addr, p.block < w18.heap.size → W.cell? p = (w18).cell? p) ∧ (∀ p : Addr, p.block < w18.heap.size → W.frozen? p = (w18).frozen? p) ∧ Below (w18.heap.size) (w18) W) (exact keep_ofP bel) (fail)
      all_goals (go_wp2_with fail)
      all_goals (go_meet)
      all_goals (refine ⟨_, rfl, ?_, ?_, ?_⟩; (repeat (first | (with_reducible exact blk_new_at _ _ (by first | rfl | (simp; done))) | (with_reducible refine blk_drew ?_))); (first | exact Nat.le_refl _ | (simp; done)); (exact bel))
    obtain ⟨bs_, rfl, k_t, ht9, hb_c⟩ := hcut
    obtain ⟨w90, hwc⟩ : ∃ Q9 : World, Q9 = wc := ⟨_, rfl⟩
    subst hwc
    clear x0w x1w x2w x3w x4w x5w x6w x7w x8w x9w xlw
    replace k_w := blk_below k_w hb_c (blk_lt k_w)
    replace k_f := blk_below k_f hb_c (blk_lt k_f)
    replace o_W := o_W.below hb_c
    replace G_ := G_.trans (hb_c.mono G_.size)
    have s_w90 := hb_c.size
    clear hb_c hcs1 ht9 hbg hglt
    obtain ⟨x0w, x1w, x2w, x3w, x4w, x5w, x6w, x7w, x8w, x9w, xlw⟩ := blk10 k_w
    obtain ⟨x0t, x1t, x2t, x3t, x4t, x5t, x6t, xlt⟩ := blk7 k_t
    go_wp2_with fail
    clear x0w x1w x2w x3w x4w x5w x6w x7w x8w x9w xlw x0t x1t x2t x3t x4t x5t x6t xlt
    clear k_t
    refine (HSHAPE.out A1 c1 (some ⟨gS, 0, none⟩) c2 A3 c3 A4 c4 A5 c5 _ _ w90 o_W).mono ?_
    rintro e w91 ⟨S1, s1, S2, s2, S3, s3, S4, s4, S5, s5, rfl, o_S, z_⟩
    replace k_w := blk_next k_w z_
    replace k_f := blk_next k_f z_
    replace o_W := o_W.below z_
    replace G_ := G_.trans (z_.mono G_.size)
    have s_w91 := z_.size
    clear z_
    go_wp2_with fail
    have q_w := blk_lt k_w
    have q_f := blk_lt k_f
    obtain ⟨w92, e_⟩ : ∃ x, x = (w91.alloc (.cells #[.int .i64 d1, .int .i64 f1, .slice S1 ss1.length s1, .int .i64 d2, .int .i64 f2, .slice S2 ss2.length s2, .slice S3 sv.length s3, .slice S4 P.length s4, .slice S5 pp.length s5, .int .i64 mS] 33)) := ⟨_, rfl⟩
    have hX_ : Boxy w91 w92 := by rw [e_]; exact boxy
    have z_ : Below w.heap.size w91 w92 := by rw [e_]; exact bel
    replace k_w := hkw e_ (blk_alloc k_w _)
    replace k_f := hkw e_ (blk_alloc k_f _)
    have k_s : w92.heap[w91.heap.size]? = some (.cells #[.int .i64 d1, .int .i64 f1, .slice S1 ss1.length s1, .int .i64 d2, .int .i64 f2, .slice S2 ss2.length s2, .slice S3 sv.length s3, .slice S4 P.length s4, .slice S5 pp.length s5, .int .i64 mS] 33 (0, 0)) := by rw [e_]; exact (blk_new_at _ _ (by simp))
    replace o_W := o_W.boxy hX_
    replace o_S := o_S.boxy hX_
    replace G_ : Below w.heap.size w w92 := G_.trans z_
    have s_w92 : w91.heap.size ≤ w92.heap.size := by rw [e_]; simp [World.setCell]; try omega
    obtain ⟨bs, eb_⟩ : ∃ x, x = w91.heap.size := ⟨_, rfl⟩
    rw [← eb_] at k_s
    have l_s : w.heap.size ≤ bs := by omega
    have d_ws : bw < bs := by omega
    have d_fs : bf < bs := by omega
    have eb_s := eb_; clear eb_
    rw [← e_]
    clear e_ hX_ z_ q_w q_f
    try rw [← eb_s]
    clear eb_s
    refine (HBACK.out S1 s1 S2 s2 S3 s3 S4 s4 S5 s5 _ _ w92 o_S).mono ?_
    rintro e w93 ⟨U1, u1, U2, u2, U3, u3, U4, u4, U5, u5, rfl, o_U, z_⟩
    replace k_w := blk_next k_w z_
    replace k_f := blk_next k_f z_
    replace k_s := blk_next k_s z_
    replace o_W := o_W.below z_
    replace o_S := o_S.below z_
    replace G_ := G_.trans (z_.mono G_.size)
    have s_w93 := z_.size
    clear z_
    clear o_S
    cases sh
    · skip
      have hm3 : ¬ 1 ≤ m := of_decide_eq_false R_can.symm
      omega
    · skip
      have hm3 : 1 ≤ m := of_decide_eq_true R_can.symm
      obtain ⟨rfl, rfl, hUD⟩ := R_yes rfl
      injection hUD with e1 e2 e3 e4 e5 e6 e7
      replace e1 := e1.symm
      replace e2 := e2.symm
      replace e3 := e3.symm
      replace e4 := e4.symm
      replace e5 := e5.symm
      replace e6 := e6.symm
      replace e7 := e7.symm
      subst e1 e2 e3 e4 e5 e6 e7
      clear R_yes R_can
      obtain ⟨x0f, x1f, x2f, x3f, x4f, x5f, x6f, x7f, x8f, x9f, xlf⟩ := blk10 k_f
      obtain ⟨x0w, x1w, x2w, x3w, x4w, x5w, x6w, x7w, x8w, x9w, xlw⟩ := blk10 k_w
      obtain ⟨x0s, x1s, x2s, x3s, x4s, x5s, x6s, x7s, x8s, x9s, xls⟩ := blk10 k_s
      go_wp2_with fail
      clear x0f x1f x2f x3f x4f x5f x6f x7f x8f x9f xlf x0w x1w x2w x3w x4w x5w x6w x7w x8w x9w xlw x0s x1s x2s x3s x4s x5s x6s x7s x8s x9s xls
      have q_w := blk_lt k_w
      have q_f := blk_lt k_f
      have q_s := blk_lt k_s
      obtain ⟨w94, e_⟩ : ∃ x, x = (w93.alloc (.cells #[.int .i64 d1, .int .i64 f1, .slice U1 ss1.length u1, .int .i64 d2, .int .i64 f2, .slice U2 ss2.length u2, .slice U3 st.length u3, .slice U4 UP.length u4, .slice U5 up.length u5, .int .i64 um] 33)) := ⟨_, rfl⟩
      have hX_ : Boxy w93 w94 := by rw [e_]; exact boxy
      have z_ : Below w.heap.size w93 w94 := by rw [e_]; exact bel
      replace k_w := hkw e_ (blk_alloc k_w _)
      replace k_f := hkw e_ (blk_alloc k_f _)
      replace k_s := hkw e_ (blk_alloc k_s _)
      have k_u : w94.heap[w93.heap.size]? = some (.cells #[.int .i64 d1, .int .i64 f1, .slice U1 ss1.length u1, .int .i64 d2, .int .i64 f2, .slice U2 ss2.length u2, .slice U3 st.length u3, .slice U4 UP.length u4, .slice U5 up.length u5, .int .i64 um] 33 (0, 0)) := by rw [e_]; exact (blk_new_at _ _ (by simp))
      replace o_W := o_W.boxy hX_
      replace o_U := o_U.boxy hX_
      replace G_ : Below w.heap.size w w94 := G_.trans z_
      have s_w94 : w93.heap.size ≤ w94.heap.size := by rw [e_]; simp [World.setCell]; try omega
      obtain ⟨bu, eb_⟩ : ∃ x, x = w93.heap.size := ⟨_, rfl⟩
      rw [← eb_] at k_u
      have l_u : w.heap.size ≤ bu := by omega
      have d_wu : bw < bu := by omega
      have d_fu : bf < bu := by omega
      have d_su : bs < bu := by omega
      have eb_u := eb_; clear eb_
      rw [← e_]
      clear e_ hX_ z_ q_w q_f q_s
      try rw [← eb_u]
      clear eb_u
      refine (s_SameCard d2 f2 d2 f2 w94.heap.size U2 (some ⟨gS, 0, none⟩) ss2.length u2 ss2.length c2 ss2 ss2 w94 (o_U.rd (HRZ2.out.more (by omega))).d.s2 (o_W.rd (HZ.out.more (by omega))).d.s2 (Nat.le_refl _)).mono ?_
      rintro e w95 ⟨rfl, z_⟩
      replace k_w := blk_next k_w z_
      replace k_f := blk_next k_f z_
      replace k_s := blk_next k_s z_
      replace k_u := blk_next k_u z_
      replace o_W := o_W.below z_
      replace o_U := o_U.below z_
      replace G_ := G_.trans (z_.mono G_.size)
      have s_w95 := z_.size
      clear z_
      rw [sameCard_iff.2 ⟨rfl, rfl, rfl⟩]
      obtain ⟨x0u, x1u, x2u, x3u, x4u, x5u, x6u, x7u, x8u, x9u, xlu⟩ := blk10 k_u
      obtain ⟨x0w, x1w, x2w, x3w, x4w, x5w, x6w, x7w, x8w, x9w, xlw⟩ := blk10 k_w
      go_wp2_with fail
      clear x0u x1u x2u x3u x4u x5u x6u x7u x8u x9u xlu x0w x1w x2w x3w x4w x5w x6w x7w x8w x9w xlw
      refine (HOKU.out U1 u1 U2 u2 U3 u3 U4 u4 U5 u5 _ _ w95 o_U).mono ?_
      rintro e w96 ⟨rfl, z_⟩
      replace k_w := blk_next k_w z_
      replace k_f := blk_next k_f z_
      replace k_s := blk_next k_s z_
      replace k_u := blk_next k_u z_
      replace o_W := o_W.below z_
      replace o_U := o_U.below z_
      replace G_ := G_.trans (z_.mono G_.size)
      have s_w96 := z_.size
      clear z_
      go_wp2
      go_ret
      exact ⟨rfl, G_⟩
end Go.Proofs.YteffbjddgdjkmaaGreat.fnWorkshops
