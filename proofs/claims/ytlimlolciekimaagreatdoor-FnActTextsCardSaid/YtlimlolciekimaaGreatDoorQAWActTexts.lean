/- FnActTexts: the walk. -/
import Derived.BigQuiet
import Derived.Test.YtlimlolciekimaaGreatDoorRows
import Derived.Test.YtlimlolciekimaaGreatDoorQAap
import Derived.Test.YtlimlolciekimaaGreatDoorQAao
import Derived.Test.YtlimlolciekimaaGreatDoorQAan
import Derived.Test.YtlimlolciekimaaGreatDoorQAu
namespace Go.Proofs.YtlimlolciekimaaGreatDoor.fnActTexts
open Go.ChangeShapes Go.WideShapes Go.ChangeAt Go.RowKit
set_option linter.unusedVariables false
set_option linter.unusedSimpArgs false
set_option maxRecDepth 10000
theorem line_act {k a b : Nat} (h : actOk k a b = true) (ha : a ≤ 9) (hb : b ≤ 1000) : lineP (⟨#[32, 32]⟩ ++ actT k a b ++ ⟨#[32]⟩) = ((k, a, b), true) := by
  unfold lineP
  rw [if_pos (act_line2 ha hb), flds_pad, flds_act, par_act h]
set_option maxHeartbeats 3200000 in
theorem walkActTexts (A : Option Addr) (c : Nat) (bs : List Int) (w : World) (hE : Errs w) (hK : Code w w.heap.size A bs) :
    Calls Tryz.prog 5 #[.slice A bs.length c] w fun e w' => e = .returned (.bool true) ∧ Below w.heap.size w w' := by
  have hnb := hK.nb
  have hd : decide (1048576 < bs.length) = false := by simp; omega
  go_enter Tryz.func5, Tryz.ntmps5
  go_wp2_with (go_at_call 9; refine (l_big _ _ _ _ (by omega)).mono ?_; rw [hd]; rintro e w' ⟨rfl, rfl⟩)
  refine (s_DrawActsV w.heap.size A c bs w hK (Nat.le_refl _)).mono ?_
  rintro e w1 ⟨d1, f1, ss1, d2, f2, ss2, st, P, pp, m, A1, c1, A2, c2, A3, c3, A4, c4, A5, c5, la, Aa, ca, HW, ⟨hla, hgl⟩, rfl, o_W, o_A, G_⟩
  have HGL := hide hgl
  clear HW hK hd o_W hgl
  have s_w1 := G_.size
  have G0 := G_
  go_wp2
  have o_A2 := o_A.alloc (.cells #[.int .i64 d1, .int .i64 f1, .slice A1 ss1.length c1, .int .i64 d2, .int .i64 f2, .slice A2 ss2.length c2, .slice A3 st.length c3, .slice A4 P.length c4, .slice A5 pp.length c5, .int .i64 m] 33)
  have G_2 := G_.alloc s_w1 (.cells #[.int .i64 d1, .int .i64 f1, .slice A1 ss1.length c1, .int .i64 d2, .int .i64 f2, .slice A2 ss2.length c2, .slice A3 st.length c3, .slice A4 P.length c4, .slice A5 pp.length c5, .int .i64 m] 33)
  generalize (w1.alloc (.cells #[.int .i64 d1, .int .i64 f1, .slice A1 ss1.length c1, .int .i64 d2, .int .i64 f2, .slice A2 ss2.length c2, .slice A3 st.length c3, .slice A4 P.length c4, .slice A5 pp.length c5, .int .i64 m] 33)) = w2 at *
  clear o_A G_ G0
  have s_w2 := G_2.size
  go_loopw [5, 6, 7, 9] (fun i _ _ _ wr => ∃ k : Nat, k ≤ la.length ∧ i = .int .i64 (k : Int) ∧ Below w2.heap.size w2 wr) (fun i _ _ _ _ => la.length - (intOf i).toNat)
  case atStart => exact ⟨0, Nat.zero_le _, rfl, Below.refl _ _⟩
  case round =>
    obtain ⟨k, hk, rfl, hb⟩ := hrel
    have hzr := hb.size
    by_cases hlt : k < la.length
    · obtain ⟨hk1, ad, rfl, hab, e0, e1, e2⟩ := ((o_A2.rd (by omega)).below hb).at_ hlt
      have hok := HGL.out _ (List.getElem_mem hk1)
      obtain ⟨act, hact⟩ : ∃ x, la[k] = x := ⟨_, rfl⟩
      rw [hact] at e0 e1 e2 hok
      have HAC := Lib.hid hact
      clear hact
      obtain ⟨ak, aa, ab⟩ := act
      simp only at e0 e1 e2 hok
      obtain ⟨hkk, X, Y, rfl, rfl, hX, hY⟩ := actOk_parts hok
      obtain ⟨K, rfl⟩ : ∃ K : Nat, ak = K := ⟨ak.toNat, by omega⟩
      have hT := ((hE.below G_2).below hb).tab
      have kF := fun (W : World) (h : Tab W) => i_FormatAct (K : Int) (X : Int) (Y : Int) W h
      rw [fmtRes_yes hok] at kF
      simp only [Int.toNat_natCast] at kF
      have hsz := actT_size K hX hY
      have HLN := Lib.hid (line_act hok hX hY)
      have ov1 : ¬ 9223372036854775807 < (⟨#[32, 32]⟩ : ByteArray).size + (actT K X Y).size := by
        have : (⟨#[32, 32]⟩ : ByteArray).size = 2 := rfl
        omega
      have hz1 : ((⟨#[32, 32]⟩ : ByteArray) ++ actT K X Y).size ≤ 30 := by
        rw [ByteArray.size_append]
        have : (⟨#[32, 32]⟩ : ByteArray).size = 2 := rfl
        omega
      have ov2 : ¬ 9223372036854775807 < ((⟨#[32, 32]⟩ : ByteArray) ++ actT K X Y).size + (⟨#[32]⟩ : ByteArray).size := by rw [size1]; omega
      have hz2 : ((⟨#[32, 32]⟩ : ByteArray) ++ actT K X Y ++ ⟨#[32]⟩).size ≤ 31 := by rw [ByteArray.size_append, size1]; omega
      obtain ⟨T, hT_⟩ : ∃ x, actT K X Y = x := ⟨_, rfl⟩
      rw [hT_] at kF HLN ov1 ov2 hz1 hz2
      have KF := hide kF
      clear kF hT_ hok hsz hkk
      go_wp2_with fail
      refine (KF.out wr hT).mono ?_
      clear KF hT
      rintro e w3 ⟨rfl, hb3⟩
      have hb3' := hb.trans (hb3.mono hzr)
      have hE3 := (hE.below G_2).below hb3'
      clear e0 e1 e2
      go_wp2_with fail
      refine (i_ParseAct _ w3 hE3 (by omega)).mono ?_
      rw [HLN.out]
      simp only [actV]
      clear HLN hE3 ov1 ov2 hz1 hz2
      rintro e w4 ⟨rfl, hb4⟩
      have hb4' := hb3'.trans (hb4.mono hb3'.size)
      have kb := blk_new w4 (.cells #[.int .i64 (K : Int), .int .i64 (X : Int), .int .i64 (Y : Int)] 61)
      have hb5 := hb4'.alloc hb4'.size (.cells #[.int .i64 (K : Int), .int .i64 (X : Int), .int .i64 (Y : Int)] 61)
      obtain ⟨_, ad2, had, _, e0, e1, e2⟩ := ((o_A2.rd (by omega)).below hb5).at_ hlt
      have had := Option.some.inj had
      subst had
      rw [HAC.out] at e0 e1 e2
      simp only at e0 e1 e2
      go_upto_region 9 with fail
      generalize (w4.alloc (.cells #[.int .i64 (K : Int), .int .i64 (X : Int), .int .i64 (Y : Int)] 61)) = w5 at *
      obtain ⟨b5, hb5e⟩ : ∃ x, x = w4.heap.size := ⟨_, rfl⟩
      rw [← hb5e] at kb
      try rw [← hb5e]
      clear hb5e hb4' hb4
      obtain ⟨x0, x1, x2, xl⟩ := blk3 kb
      have hki : (k : Int) < (la.length : Int) := by omega
      go_wp2_with fail
      go_quiet (fail)
      go_wp2
      go_roundw
      case rel => exact ⟨k + 1, by omega, by go_num, below_drewN hb5 _⟩
      case measure => simp [intOf]; omega
    · have hkl : k = la.length := by omega
      subst hkl
      go_wp2
      go_ret
      exact ⟨rfl, G_2.trans (hb.mono s_w2)⟩
end Go.Proofs.YtlimlolciekimaaGreatDoor.fnActTexts
