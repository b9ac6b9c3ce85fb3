/- FnSummaries: the walk. -/
import Derived.BigQuiet
import Derived.Lib.QuietBelow
import Derived.Test.YtlimlolciekimaaGreatDoorRows
import Derived.Test.YtlimlolciekimaaGreatDoorQGar
import Derived.Test.YtlimlolciekimaaGreatDoorQGat
import Derived.Test.YtlimlolciekimaaGreatDoorQGw
import Derived.Test.YtlimlolciekimaaGreatDoorQGu
import Derived.Test.YtlimlolciekimaaGreatDoorQGz
namespace Go.Proofs.YtlimlolciekimaaGreatDoor.fnSummaries
open Go.ChangeShapes Go.WideShapes Go.ChangeAt Go.RowKit
set_option linter.unusedVariables false
set_option linter.unusedSimpArgs false
set_option maxRecDepth 10000
theorem nameFor10 (w : World) : Calls Tryz.prog 30 #[.int .i64 10] w fun e w' => e = .returned (.string ByteArray.empty) ∧ Below w.heap.size w w' := by
  go_enter Tryz.func30, Tryz.ntmps30
  go_wp2
  go_ret
  exact ⟨rfl, bel⟩
theorem nameOf_ne {k : Int} (h0 : 0 ≤ k) (h1 : k ≤ 9) : nameOf k ≠ ByteArray.empty := by
  have h2 : k = 0 ∨ k = 1 ∨ k = 2 ∨ k = 3 ∨ k = 4 ∨ k = 5 ∨ k = 6 ∨ k = 7 ∨ k = 8 ∨ k = 9 := by omega
  rcases h2 with rfl | rfl | rfl | rfl | rfl | rfl | rfl | rfl | rfl | rfl <;> decide
theorem nameOf2 : nameOf 2 = ⟨#[99, 99]⟩ := by decide
set_option maxHeartbeats 12800000 in
theorem walkSummaries (A : Option Addr) (c : Nat) (bs : List Int) (w : World) (hT : Tab w) (hL : LenV w) (hK : Code w w.heap.size A bs) :
    Calls Tryz.prog 6 #[.slice A bs.length c] w fun e w' => e = .returned (.bool true) ∧ Below w.heap.size w w' := by
  have hnb := hK.nb
  have hd : decide (1048576 < bs.length) = false := by simp; omega
  go_enter Tryz.func6, Tryz.ntmps6
  go_wp2_with (go_at_call 9; refine (l_big _ _ _ _ (by omega)).mono ?_; rw [hd]; rintro e w' ⟨rfl, rfl⟩)
  refine (s_DrawActs w.heap.size A c bs w hK (Nat.le_refl _)).mono ?_
  rintro e w1 ⟨d1, f1, ss1, d2, f2, ss2, st, P, pp, m, A1, c1, A2, c2, A3, c3, A4, c4, A5, c5, la, Aa, ca, HW, hla, rfl, o_W, o_A, G_⟩
  have hwk := HW.ok
  have hz := HW.z
  have s_w1 := G_.size
  have hcard := draft_card (workOk_iff.1 hwk).1
  have hmm := (workOk_iff.1 hwk).2.2.2.2
  have hcat := (workOk_iff.1 hwk).2.1
  have hpp : pp.length ≤ 20 := (workOk_iff.1 hwk).2.2.1
  have hst40 : st.length ≤ 40 := (draftOk_iff.1 (workOk_iff.1 hwk).1).1.2
  simp only at hcard hmm hcat
  obtain ⟨D, F, rfl, rfl, hD8, hF8, hn1, hn10, hz16⟩ := card_nat hcard
  obtain ⟨M, rfl⟩ : ∃ M : Nat, m = M := ⟨m.toNat, by omega⟩
  have HSH : shopT ⟨⟨d1, f1, ss1, (D : Int), (F : Int), ss2, st⟩, P, pp, (M : Int)⟩ = [cardT D F ss2, tSteps ++ numT st.length, cardsT P, sheetsT pp, tMoney ++ numT M] := by
    unfold shopT; simp only [Int.toNat_natCast]
  have hP20 : P.length ≤ 20 := (catOk_iff.1 hcat).1
  have hnm := nm_size hcat
  have HNM := hide hnm
  have kF := fun (W : World) (h : OwnW W w.heap.size w1.heap.size A1 c1 A2 c2 A3 c3 A4 c4 A5 c5 ⟨d1, f1, ss1, (D : Int), (F : Int), ss2, st⟩ P pp) (hT : Tab W) => i_FormatWorkshop d1 f1 ss1 D F ss2 st P pp M _ _ A1 A2 A3 A4 A5 c1 c2 c3 c4 c5 W h hz hwk hT
  simp only [HSH] at kF
  have KF := hide kF
  have HZ16 := hide hz16
  have HCD := Lib.hid hcard
  have HOZ := hide (hz.more (k := 16777216) (by omega))
  clear kF HSH hwk hcard hcat hnm hz16 HW hla o_A hz
  have k_o := blk_new w1 (.cells #[.int .i64 d1, .int .i64 f1, .slice A1 ss1.length c1, .int .i64 (D : Int), .int .i64 (F : Int), .slice A2 ss2.length c2, .slice A3 st.length c3, .slice A4 P.length c4, .slice A5 pp.length c5, .int .i64 (M : Int)] 33)
  have o_W2 := o_W.alloc (.cells #[.int .i64 d1, .int .i64 f1, .slice A1 ss1.length c1, .int .i64 (D : Int), .int .i64 (F : Int), .slice A2 ss2.length c2, .slice A3 st.length c3, .slice A4 P.length c4, .slice A5 pp.length c5, .int .i64 (M : Int)] 33)
  have G_2 := G_.alloc s_w1 (.cells #[.int .i64 d1, .int .i64 f1, .slice A1 ss1.length c1, .int .i64 (D : Int), .int .i64 (F : Int), .slice A2 ss2.length c2, .slice A3 st.length c3, .slice A4 P.length c4, .slice A5 pp.length c5, .int .i64 (M : Int)] 33)
  go_wp2_with fail
  generalize (w1.alloc (.cells #[.int .i64 d1, .int .i64 f1, .slice A1 ss1.length c1, .int .i64 (D : Int), .int .i64 (F : Int), .slice A2 ss2.length c2, .slice A3 st.length c3, .slice A4 P.length c4, .slice A5 pp.length c5, .int .i64 (M : Int)] 33)) = w2 at *
  obtain ⟨bo, hbo⟩ : ∃ x, x = w1.heap.size := ⟨_, rfl⟩
  rw [← hbo] at k_o
  try rw [← hbo]
  clear hbo o_W G_
  refine (KF.out w2 o_W2 (hT.below G_2)).mono ?_
  clear KF
  rintro e w3 ⟨AL, cL, rfl, hrow, hb3⟩
  have k_3 := blk_next k_o hb3
  have o_W3 := o_W2.below hb3
  have G_3 := G_2.trans (hb3.mono G_2.size)
  have hrd := o_W3.rd HOZ.out
  have s2x : Strs w3 w3.heap.size A2 ss2.length ss2 := hrd.d.s2
  obtain ⟨L, hLP, hIt⟩ := hrd.i
  have hP := hrd.p
  have HLP := Lib.hid hLP
  clear hLP hrd o_W2 o_W3 G_2 k_o hb3
  have hrow5 : w3.ownsRow w2.heap.size 9 1 (.slice AL 5 cL) 5 [.string (cardT D F ss2), .string (⟨#[115, 116, 101, 112, 115, 32]⟩ ++ numT st.length), .string (cardsT P), .string (sheetsT pp), .string (⟨#[109, 111, 110, 101, 121, 32]⟩ ++ numT M)] := hrow
  clear hrow
  obtain ⟨gL, cap, hv, hgb, hgl⟩ := hrow5.form (by omega)
  have hA : AL = some ⟨gL, 0, none⟩ := by injection hv
  subst hA
  clear hv
  have q0 := hrow5.cellAt 0 (by omega)
  have q1 := hrow5.cellAt 1 (by omega)
  have q2 := hrow5.cellAt 2 (by omega)
  have q3 := hrow5.cellAt 3 (by omega)
  have q4 := hrow5.cellAt 4 (by omega)
  simp only [List.getElem?_cons_zero, List.getElem?_cons_succ] at q0 q1 q2 q3 q4
  have hs3 := G_3.size
  have hT3 := hT.below G_3
  clear hrow5
  go_wp2
  go_loopw [6, 7] (fun s i wr => ∃ k : Nat, k ≤ P.length ∧ i = .int .i64 (k : Int) ∧ s = .string (tailT tCards ((P.map (·.nm)).take k)) ∧ Below w3.heap.size w3 wr) (fun _ i _ => P.length - (intOf i).toNat)
  case atStart => exact ⟨0, Nat.zero_le _, rfl, by rw [List.take_zero, tailT_nil]; rfl, Below.refl _ _⟩
  case round =>
    obtain ⟨k, hk, rfl, rfl, hb⟩ := hrel
    have hzr := hb.size
    have k2 := blk_below k_3 hb (blk_lt k_3)
    obtain ⟨x0, x1, x2, x3, x4, x5, x6, x7, x8, x9, xl⟩ := blk10 k2
    by_cases hlt : k < P.length
    · obtain ⟨hk1, ad, hA4, hab, e0, e1, e2, e3, hSx, hnx⟩ := (hIt.below hb).at_ (k := k) hlt
      subst hA4
      have hP1 := plI_at hk1
      rw [HLP.out] at hP1
      have hkm : k < (P.map (·.nm)).length := by rw [List.length_map]; exact hlt
      have hPk : (P.map (·.nm))[k] = L[k].x.nm := by
        rw [List.getElem?_eq_getElem hlt] at hP1
        have := Option.some.inj hP1
        rw [List.getElem_map, this]
      have h12 := HNM.out _ (List.getElem_mem hkm)
      have HK := Lib.hid (tailT_take2 tCards (P.map (·.nm)) hkm)
      have hts := tailT_size tCards 12 ((P.map (·.nm)).take k) (fun x hx => HNM.out x (List.mem_of_mem_take hx))
      have htl : ((P.map (·.nm)).take k).length ≤ 20 := by rw [List.length_take, List.length_map]; omega
      have htc : tCards.size = 5 := rfl
      rw [hPk] at h12 HK
      obtain ⟨Q, hQ⟩ : ∃ Q, tailT tCards ((P.map (·.nm)).take k) = Q := ⟨_, rfl⟩
      rw [hQ] at HK hts ⊢
      obtain ⟨X, hX⟩ : ∃ X, L[k] = X := ⟨_, rfl⟩
      rw [hX] at HK h12 e0 e1 e2 e3
      clear hQ hX hPk hP1 hSx hnx
      have ov1 : ¬ 9223372036854775807 < Q.size + (⟨#[32]⟩ : ByteArray).size := by rw [size1]; omega
      have ov2 : ¬ 9223372036854775807 < (Q ++ (⟨#[32]⟩ : ByteArray)).size + X.x.nm.size := by rw [ByteArray.size_append, size1]; omega
      clear htc hts htl
      go_wp2
      go_roundw
      case rel => exact ⟨k + 1, by omega, by go_num, by rw [HK.out], hb⟩
      case measure => simp [intOf]; omega
    · have hkl : k = P.length := by omega
      have HCT : Hid (tailT tCards ((P.map (·.nm)).take k) = cardsT P) := by
        unfold Hid cardsT
        rw [List.take_of_length_le (by rw [List.length_map]; omega)]
      rw [HCT.out]
      clear HCT
      subst hkl
      obtain ⟨w4, hw4⟩ : ∃ Q9 : World, Q9 = wr := ⟨_, rfl⟩
      subst hw4
      clear hIt HNM
      go_wp2
      go_loopw [8, 9] (fun s i wr => ∃ k : Nat, k ≤ 10 ∧ i = .int .i64 (k : Int) ∧ s = .string (tailT tSheets ((sheetN pp).take k)) ∧ Below w4.heap.size w4 wr) (fun _ i _ => 10 - (intOf i).toNat)
      case atStart => exact ⟨0, Nat.zero_le _, rfl, by rw [List.take_zero, tailT_nil]; rfl, Below.refl _ _⟩
      case round =>
        obtain ⟨k, hk, rfl, rfl, hbk⟩ := hrel
        have hzk := hbk.size
        have k3 := blk_below k2 hbk (blk_lt k2)
        have B3r := hb.trans (hbk.mono hb.size)
        clear x0 x1 x2 x3 x4 x5 x6 x7 x8 x9 xl
        by_cases hlt : k < 10
        · have hkm : k < (sheetN pp).length := by rw [sheetN_len]; exact hlt
          have hbd := sheets_bd pp (k : Int) hpp
          have h10 := sheetN_size pp hpp _ (List.getElem_mem hkm)
          have HK := Lib.hid (tailT_take2 tSheets (sheetN pp) hkm)
          rw [sheetN_at pp hkm] at h10 HK
          have hts := tailT_size tSheets 10 ((sheetN pp).take k) (fun x hx => sheetN_size pp hpp x (List.mem_of_mem_take hx))
          have htl : ((sheetN pp).take k).length ≤ 10 := by rw [List.length_take]; omega
          have htc : tSheets.size = 6 := rfl
          obtain ⟨Q, hQ⟩ : ∃ Q, tailT tSheets ((sheetN pp).take k) = Q := ⟨_, rfl⟩
          rw [hQ] at HK hts ⊢
          clear hQ
          have kS := fun (W : World) (h : Below w3.heap.size w3 W) => i_SheetsLeft pp (k : Int) w3.heap.size A5 pp.length c5 W (hP.below h) h.size
          obtain ⟨z, hz⟩ : ∃ z : Nat, sheetsL pp (k : Int) = z := ⟨(sheetsL pp (k : Int)).toNat, by omega⟩
          rw [hz] at hbd h10 HK
          simp only [hz] at kS
          rw [Int.toNat_natCast] at h10 HK
          have KS := hide kS
          clear kS hz
          have ov1 : ¬ 9223372036854775807 < Q.size + (⟨#[32]⟩ : ByteArray).size := by rw [size1]; omega
          have ov2 : ¬ 9223372036854775807 < (Q ++ (⟨#[32]⟩ : ByteArray)).size + (numT z).size := by rw [ByteArray.size_append, size1]; omega
          obtain ⟨y0, y1, y2, y3, y4, y5, y6, y7, y8, y9, yl⟩ := blk10 k3
          clear htc hts htl
          go_wp2_with fail
          refine (KS.out wr B3r).mono ?_
          rintro e w5 ⟨rfl, hb5⟩
          have hb5' := hbk.trans (hb5.mono hzk)
          go_wp2_with fail
          refine (i_FormatInt z w5 (by omega) (hT3.below (hb.trans (hb5'.mono hb.size)))).mono ?_
          rintro e w6 ⟨rfl, hb6⟩
          have hb6' := hb5'.trans (hb6.mono hb5'.size)
          go_wp2
          go_roundw
          case rel => exact ⟨k + 1, by omega, by go_num, by rw [HK.out], hb6'⟩
          case measure => simp [intOf]; omega
        · have hkl : ((k : Nat) : Int) = 10 := by omega
          have HCS : Hid (tailT tSheets ((sheetN pp).take k) = sheetsT pp) := by
            unfold Hid sheetsT
            rw [List.take_of_length_le (by rw [sheetN_len]; omega)]
          rw [HCS.out, hkl]
          have hTr := hT3.below B3r
          have G_r := G_3.trans (B3r.mono hs3)
          have hzr3 := B3r.size
          have hgl3 : gL < w3.heap.size := hgl
          have r0 := (B3r.cell (p := ⟨gL, 0, none⟩) hgl3).trans q0
          have hcd2 := HCD.out
          clear q0 hP HCS
          go_wp2_with fail
          refine (i_ReadCard D F ss2 wr hcd2 hTr (hL.below G_r)).mono ?_
          rintro e w5 ⟨Ac, cc, rfl, oC, hb5⟩
          have k5 := blk_next k3 hb5
          have B35 := B3r.trans (hb5.mono hzr3)
          have G_5 := G_r.trans (hb5.mono G_r.size)
          have kc := blk_new w5 (.cells #[.int .i64 (D : Int), .int .i64 (F : Int), .slice Ac ss2.length cc] 26)
          have k6 := blk_alloc k5 (.cells #[.int .i64 (D : Int), .int .i64 (F : Int), .slice Ac ss2.length cc] 26)
          have B36 := B35.alloc B35.size (.cells #[.int .i64 (D : Int), .int .i64 (F : Int), .slice Ac ss2.length cc] 26)
          have G_6 := G_5.alloc G_5.size (.cells #[.int .i64 (D : Int), .int .i64 (F : Int), .slice Ac ss2.length cc] 26)
          have oC6 := oC.alloc (.cells #[.int .i64 (D : Int), .int .i64 (F : Int), .slice Ac ss2.length cc] 26)
          have hz162 := HZ16.out
          clear oC r0 k3 k2 k_3 hbk hb hb5
          go_wp2_with fail
          generalize w5.alloc (.cells #[.int .i64 (D : Int), .int .i64 (F : Int), .slice Ac ss2.length cc] 26) = w6 at *
          obtain ⟨bc, hbc⟩ : ∃ x, x = w5.heap.size := ⟨_, rfl⟩
          rw [← hbc] at kc
          try rw [← hbc]
          clear hbc k5 B35 G_5 hTr G_r B3r
          have S1 : Strs w6 w6.heap.size Ac ss2.length ss2 := strs_of_own oC6 (by omega) (fun s hs => Nat.le_trans (hz162 s hs) (by decide))
          have S2 : Strs w6 w6.heap.size A2 ss2.length ss2 := (s2x.below B36).more B36.size
          have hT6 := hT.below G_6
          have zw : ∀ d_ os, Below w6.heap.size w6 (Go.Sort.grow (redrawn w6 d_) os) := fun d_ os => below_regrown w6 d_ os
          have hV := atV_bd hK.bd 0
          obtain ⟨V, hVe⟩ : ∃ V, atV bs 0 = V := ⟨_, rfl⟩
          obtain ⟨K, hK0⟩ : ∃ K : Nat, (K : Int) = V % 10 := ⟨(V % 10).toNat, by rw [Int.toNat_of_nonneg (Int.emod_nonneg _ (by omega))]⟩
          have hK9 : K ≤ 9 := by omega
          have hrem : Int.tmod V 10 = (K : Int) := by rw [Int.tmod_eq_emod_of_nonneg (by omega), hK0]
          have kSame := fun d_ os => Calls.regrown_of (w := w6) (d := d_) (os := os) (v := .bool true) (by
            have h := s_SameCard D F D F w6.heap.size Ac A2 ss2.length cc ss2.length c2 ss2 ss2 (Go.Sort.grow (redrawn w6 d_) os) (S1.below (zw d_ os)) (S2.below (zw d_ os)) (zw d_ os).size
            rw [sameCard_iff.2 ⟨rfl, rfl, rfl⟩] at h
            exact h)
          have kS := fun d_ os => Calls.regrown_of (w := w6) (d := d_) (os := os) (i_FormatInt st.length (Go.Sort.grow (redrawn w6 d_) os) (by omega) (hT6.below (zw d_ os)))
          have kM := fun d_ os => Calls.regrown_of (w := w6) (d := d_) (os := os) (i_FormatInt M (Go.Sort.grow (redrawn w6 d_) os) (by omega) (hT6.below (zw d_ os)))
          have kA := fun d_ os => Calls.regrown_of (w := w6) (d := d_) (os := os) (v := .int .i64 V) ((l_at 0 w.heap.size A c bs (Go.Sort.grow (redrawn w6 d_) os) ((hK.below G_6).below ((zw d_ os).mono G_6.size)) (by omega)).mono (fun e w' h => ⟨hVe ▸ h.1, h.2 ▸ Below.refl _ _⟩))
          have k10 := fun d_ os => Calls.regrown_of (w := w6) (d := d_) (os := os) (nameFor10 (Go.Sort.grow (redrawn w6 d_) os))
          have kN2 := fun d_ os => Calls.regrown_of (w := w6) (d := d_) (os := os) (i_NameFor 2 (Go.Sort.grow (redrawn w6 d_) os) (by omega) (by omega))
          have kNK := fun d_ os => Calls.regrown_of (w := w6) (d := d_) (os := os) (i_NameFor (K : Int) (Go.Sort.grow (redrawn w6 d_) os) (by omega) (by omega))
          have hne := beq_toList_false (nameOf_ne (k := (K : Int)) (by omega) (by omega))
          have h2c := beq_toList_true nameOf2
          have KSame := hide kSame
          have KS := hide kS
          have KM := hide kM
          have KA := hide kA
          have K10 := hide k10
          have KN2 := hide kN2
          have KNK := hide kNK
          obtain ⟨NK, hNK⟩ : ∃ x, nameOf (K : Int) = x := ⟨_, rfl⟩
          obtain ⟨N2, hN2⟩ : ∃ x, nameOf 2 = x := ⟨_, rfl⟩
          rw [hNK] at KNK hne
          have hne2 : ¬ NK.toList = [] := by
            intro h
            have e0 : ByteArray.empty.toList = [] := by rw [ByteArray.toList_eq]; rfl
            rw [h, e0] at hne
            simp at hne
          have hne3 : (NK.toList == []) = false := by rw [beq_eq_false_iff_ne]; exact hne2
          have hne4 : NK.toList.isEmpty = false := by cases h : NK.toList with
            | nil => exact absurd h hne2
            | cons a b => rfl
          rw [hN2] at KN2 h2c
          have h2d : (N2.toList == [99, 99]) = true := by rw [← hN2, nameOf2, ByteArray.toList_eq]; rfl
          have z1 := numT10 (n := st.length) (by omega)
          have z2 := numT10 (n := M) (by omega)
          have s1 : (⟨#[115, 116, 101, 112, 115, 32]⟩ : ByteArray).size = 6 := rfl
          have s2 : (⟨#[109, 111, 110, 101, 121, 32]⟩ : ByteArray).size = 6 := rfl
          have ov1 : ¬ 9223372036854775807 < (⟨#[115, 116, 101, 112, 115, 32]⟩ : ByteArray).size + (numT st.length).size := by rw [s1]; omega
          have ov2 : ¬ 9223372036854775807 < (⟨#[109, 111, 110, 101, 121, 32]⟩ : ByteArray).size + (numT M).size := by rw [s2]; omega
          obtain ⟨y0, y1, y2, y3, y4, y5, y6, y7, y8, y9, yl⟩ := blk10 k6
          obtain ⟨u0, u1, u2, ul⟩ := blk3 kc
          have t0 := cell_regrown y0
          have t1 := cell_regrown y1
          have t2 := cell_regrown y2
          have t3 := cell_regrown y3
          have t4 := cell_regrown y4
          have t5 := cell_regrown y5
          have t6 := cell_regrown y6
          have t7 := cell_regrown y7
          have t8 := cell_regrown y8
          have t9 := cell_regrown y9
          have v0 := cell_regrown u0
          have v1 := cell_regrown u1
          have v2 := cell_regrown u2
          have p1 := cell_regrown ((B36.cell (p := ⟨gL, 1, none⟩) hgl3).trans q1)
          have p2 := cell_regrown ((B36.cell (p := ⟨gL, 2, none⟩) hgl3).trans q2)
          have p3 := cell_regrown ((B36.cell (p := ⟨gL, 3, none⟩) hgl3).trans q3)
          have p4 := cell_regrown ((B36.cell (p := ⟨gL, 4, none⟩) hgl3).trans q4)
          clear kSame kS kM kA k10 kN2 kNK hNK hN2 z1 z2 s1 s2 q1 q2 q3 q4 hVe hK0 k6 kc S1 S2 oC6 hT6 hz162 hcd2 s2x hT3 G_3
          refine wp_region_quiet_below (by kernel_rfl) (lexB_of (by kernel_rfl)) ?_
          try dsimp only [List.append]
          repeat (go_big_quiet_step (first | (go_at_call 29; exact KSame.out _ _) | (go_at_call_of 26 (Value.int .i64 (st.length : Int)); exact KS.out _ _) | (go_at_call_of 26 (Value.int .i64 (M : Int)); exact KM.out _ _) | (go_at_call 31; exact KA.out _ _) | (go_at_call_of 30 (Value.int .i64 10); exact K10.out _ _) | (go_at_call_of 30 (Value.int .i64 2); exact KN2.out _ _) | (go_at_call_of 30 (Value.int .i64 (K : Int)); exact KNK.out _ _)))
          refine wpQuiet_nil ?_
          intro _ hw'
          obtain ⟨⟨dq, osq⟩, hw''⟩ := hw'
          subst hw''
          go_wp2
          go_ret
          exact ⟨rfl, G_6.trans ((zw dq osq).mono G_6.size)⟩
end Go.Proofs.YtlimlolciekimaaGreatDoor.fnSummaries
