/- Contracts of the program's and the reference's functions (TxtD, Ctx4). -/
import Derived.Test.YtlimlolciekimaaGreatDoorRows
import Derived.Test.YtlimlolciekimaaGreatDoorQGao
import Derived.Test.YtlimlolciekimaaGreatDoorQGa
import Derived.Test.YtlimlolciekimaaGreatDoorQGal
import Derived.Test.YtlimlolciekimaaGreatDoorQGar
import Derived.Test.YtlimlolciekimaaGreatDoorQGb
namespace Go.Proofs.YtlimlolciekimaaGreatDoor
open Go.ChangeShapes Go.WideShapes Go.ChangeAt Go.RowKit
set_option linter.unusedVariables false
set_option linter.unusedSimpArgs false
set_option maxRecDepth 10000
theorem num_no {n : Nat} {c : UInt8} (h : ¬ (48 ≤ c.toNat ∧ c.toNat ≤ 57)) : c ∉ (numT n).data.toList := by
  intro hm
  have hd : digL (numT n).data.toList = true := digL_dec n
  unfold digL at hd
  rw [List.all_eq_true] at hd
  have := hd c hm
  simp only [Bool.and_eq_true, decide_eq_true_eq] at this
  exact h this
theorem head_no58 (d f : Nat) : (58 : UInt8) ∉ (headT d f).data.toList := by
  unfold headT
  simp only [ByteArray.data_append, Array.toList_append, List.mem_append]
  rintro ((h | h) | h)
  · exact num_no (by decide) h
  · revert h; decide
  · exact num_no (by decide) h
theorem cut_card (d f : Nat) (ss : List ByteArray) : Lib.cut (cardT d f ss).data.toList [58, 32] = ((headT d f).data.toList, (joinB ss).data.toList, true) := by
  have e : (cardT d f ss).data.toList = (headT d f).data.toList ++ 58 :: 32 :: (joinB ss).data.toList := by
    unfold cardT; simp [ByteArray.data_append]
  rw [e]; exact cut_two 58 32 _ _ (head_no58 d f)
theorem cut_head (d f : Nat) : Lib.cut (headT d f).data.toList [120] = ((numT d).data.toList, (numT f).data.toList, true) := by
  have e : (headT d f).data.toList = (numT d).data.toList ++ 120 :: (numT f).data.toList := by
    unfold headT; simp [ByteArray.data_append]
  rw [e]; exact cut_one 120 _ _ (num_no (by decide))
theorem two_letters : ∀ {l : List UInt8}, cnt 100 l + cnt 102 l = l.length → ∀ x ∈ l, x = 100 ∨ x = 102
  | [], _, x, hx => by cases hx
  | c :: l, h, x, hx => by
    have h2 := cnt_two l
    unfold cnt at h h2
    rw [List.count_cons, List.count_cons, List.length_cons] at h
    by_cases hc : c = 100
    · subst hc
      rcases List.mem_cons.1 hx with rfl | hx
      · exact .inl rfl
      · exact two_letters (l := l) (by unfold cnt; simp at h; omega) x hx
    · by_cases hc2 : c = 102
      · subst hc2
        rcases List.mem_cons.1 hx with rfl | hx
        · exact .inr rfl
        · exact two_letters (l := l) (by unfold cnt; simp at h; omega) x hx
      · simp [hc, hc2] at h; omega
theorem strip_two {l : List UInt8} (h : isStrip l = true) : ∀ x ∈ l, x = 100 ∨ x = 102 := by
  unfold isStrip at h
  simp only [Bool.and_eq_true, beq_iff_eq] at h
  exact two_letters h.1
theorem strip_no32 {l : List UInt8} (h : isStrip l = true) : (32 : UInt8) ∉ l := by
  intro hm
  rcases strip_two h 32 hm with h | h <;> revert h <;> decide
theorem split_card {ss : List ByteArray} (h1 : ss ≠ []) (h : ∀ s ∈ ss, isStrip s.data.toList = true) : (spl 32 [] (joinB ss).data.toList).map (fun l => (⟨l.toArray⟩ : ByteArray)) = ss := by
  cases ss with
  | nil => exact absurd rfl h1
  | cons x r =>
    have e : (joinB (x :: r)).data.toList = x.data.toList ++ Lib.joinTail [32] (r.map (·.data.toList)) := by
      unfold joinB; simp [Lib.join_cons]
    have hx := strip_no32 (h x (by simp))
    rw [e, spl_word 32 _ [] _ hx, List.nil_append, spl_join 32 _ _ hx (by
      intro y hy
      obtain ⟨z, hz, rfl⟩ := List.mem_map.1 hy
      exact strip_no32 (h z (by simp [hz])))]
    rw [List.map_cons, List.map_map]
    congr 1
    exact (List.map_congr_left fun z _ => rfl).trans (List.map_id _)
theorem card_strips {d f : Int} {ss : List ByteArray} (h : cardOk d f ss = true) : ss ≠ [] ∧ ∀ s ∈ ss, isStrip s.data.toList = true := by
  unfold cardOk at h
  simp only [Bool.and_eq_true, List.all_eq_true] at h
  obtain ⟨⟨h1, h2⟩, h3, h4⟩ := h
  refine ⟨by rintro rfl; revert h3; decide, fun s hs => ?_⟩
  have h5 := h4 s hs
  cases hi : isStrip s.data.toList with
  | true => rfl
  | false =>
    exfalso
    unfold stripOf downOf at h5
    rw [hi] at h5
    simp at h5
    have h6 := h5.1
    subst h6
    revert h1; decide
end Go.Proofs.YtlimlolciekimaaGreatDoor
namespace Go.Proofs.YtlimlolciekimaaGreatDoor
open Go.ChangeShapes Go.WideShapes Go.ChangeAt Go.RowKit
set_option linter.unusedVariables false
set_option linter.unusedSimpArgs false
set_option maxRecDepth 10000
theorem ba_back (b : ByteArray) : (⟨b.data.toList.toArray⟩ : ByteArray) = b := by apply ba_ext; simp
set_option maxHeartbeats 1600000 in
theorem i_ParseUint_num (n : Nat) (w : World) (hn : n ≤ 1000000000) (hT : Tab w) :
    Calls Tryz.prog 64 #[.string (numT n)] w fun e w' => e = .returned (.tuple #[.int .i64 (n : Int), .bool true]) ∧ Below w.heap.size w w' := by
  have hq := atoi_yes (uintOk_num hn).1
  rw [(uintOk_num hn).2] at hq
  have hz := numT10 hn
  have HA := hide (Tryz.strconv_Atoi_ok (numT n) (by omega) (n : Int) hq w)
  have hin : inB n 0 1000000000 = true := by simp [inB]; omega
  have hne := beq_toList_true (a := numT n) (b := numT n) rfl
  clear hq
  go_enter Tryz.func64, Tryz.ntmps64
  go_wp2_with fail
  refine HA.out.mono ?_
  clear HA
  rintro e w1 ⟨rfl, hw⟩
  have hb : Below w.heap.size w w1 := by
    rcases hw with rfl | ⟨t, rfl⟩
    · exact Below.refl _ _
    · exact Lib.bytesWorld_below _ _ _
  clear hw
  go_wp2_with (go_at_call 71; refine (i_within _ _ _ _).mono ?_; rw [hin]; rintro e w' ⟨rfl, rfl⟩)
  refine (Tryz.strconv_Itoa n (by omega) (by omega) _ (hT.below hb)).mono ?_
  rintro e w2 ⟨rfl, hk⟩
  have hb2 : Below w.heap.size w w2 := by
    obtain ⟨k, os, hk⟩ := hk
    rw [hk]
    exact hb.trans ((tab_grow _ k os).mono hb.size)
  clear hk
  rw [itoa_nat]
  go_wp2
  go_ret2
  exact ⟨rfl, hb2⟩
def LenV (w : World) : Prop := ∃ m, w.cell? ⟨2, 0, none⟩ = some (.int .i64 m)
theorem LenV.below {w w' : World} (h : LenV w) (hb : Below w.heap.size w w') : LenV w' := by
  obtain ⟨m, hm⟩ := h
  exact ⟨m, (hb.cell (p := ⟨2, 0, none⟩) (block_lt_of_cell hm)).trans hm⟩
set_option maxHeartbeats 3200000 in
theorem i_ReadCard (D F : Nat) (ss : List ByteArray) (w : World) (hc : cardOk D F ss = true) (hT : Tab w) (hL : LenV w) :
    Calls Tryz.prog 28 #[.string (cardT D F ss)] w (FreshCardB w.heap.size D F ss true w) := by
  obtain ⟨D', F', hD, hF, hD8, hF8, hn1, hn10, hz⟩ := card_nat hc
  obtain rfl : D = D' := by omega
  obtain rfl : F = F' := by omega
  have hst := card_strips hc
  have HSP := Lib.hid (split_card hst.1 hst.2)
  have hjz := joinB_size hz
  have hj2 : (joinB ss).size ≤ 170 := by
    have := Nat.mul_le_mul_right 17 hn10
    omega
  have hzD := numT10 (n := D) (by omega)
  have hzF := numT10 (n := F) (by omega)
  have hzh : (headT D F).size ≤ 21 := by unfold headT; rw [ByteArray.size_append, ByteArray.size_append, size1]; omega
  have hzc : (cardT D F ss).size ≤ 193 := by
    unfold cardT
    rw [ByteArray.size_append, ByteArray.size_append]
    have : (⟨#[58, 32]⟩ : ByteArray).size = 2 := rfl
    omega
  have HC := Lib.hid hc
  have hz24 : ∀ s ∈ ss, s.size ≤ 16777216 := fun s hs => Nat.le_trans (hz s hs) (by decide)
  have HZ := hide hz24
  have ec := cut_card D F ss
  have eh := cut_head D F
  have hlen : Lib.countB (joinB ss) ⟨#[32]⟩ + 1 = ss.length := by
    have h1 := Lib.splitB_all ⟨#[32]⟩ (by decide) 0 _ (joinB ss) rfl
    have h2 := pieces 32 (joinB ss)
    rw [split_card hst.1 hst.2] at h2
    rw [h2] at h1
    exact h1.symm
  have hpc : (Lib.splitB ⟨#[32]⟩ 0 (Lib.countB (joinB ss) ⟨#[32]⟩) (joinB ss)) = ss := by rw [pieces, split_card hst.1 hst.2]
  have kC : ∀ W : World, LenV W → Calls Tryz.prog 68 #[.string (cardT D F ss), .string ⟨#[58, 32]⟩] W fun e w' => e = .returned (.tuple #[.string (headT D F), .string (joinB ss), .bool true]) ∧ Below W.heap.size W w' := by
    rintro W ⟨m, hm⟩
    refine (Tryz.strings_Cut (cardT D F ss) ⟨#[58, 32]⟩ m W (by omega) hm).mono ?_
    rintro e w' ⟨rfl, n, rfl⟩
    refine ⟨?_, below_drewN (Below.refl _ _) n⟩
    rw [show (⟨#[58, 32]⟩ : ByteArray).data.toList = [58, 32] from rfl, ec, ba_back, ba_back]
  have kH : ∀ W : World, LenV W → Calls Tryz.prog 68 #[.string (headT D F), .string ⟨#[120]⟩] W fun e w' => e = .returned (.tuple #[.string (numT D), .string (numT F), .bool true]) ∧ Below W.heap.size W w' := by
    rintro W ⟨m, hm⟩
    refine (Tryz.strings_Cut (headT D F) ⟨#[120]⟩ m W (by omega) hm).mono ?_
    rintro e w' ⟨rfl, n, rfl⟩
    refine ⟨?_, below_drewN (Below.refl _ _) n⟩
    rw [show (⟨#[120]⟩ : ByteArray).data.toList = [120] from rfl, eh, ba_back, ba_back]
  have kS : ∀ W : World, LenV W → Calls Tryz.prog 69 #[.string (joinB ss), .string ⟨#[32]⟩] W fun e w' => ∃ A c, e = .returned (.slice A ss.length c) ∧ OwnS w' W.heap.size w'.heap.size A c ss ∧ Below W.heap.size W w' := by
    rintro W ⟨m, hm⟩
    refine (Tryz.strings_Split (joinB ss) ⟨#[32]⟩ m W (by omega) hm (by decide)).mono ?_
    rintro e w' ⟨rfl, rfl⟩
    rw [hlen, hpc]
    have h := World.ownsRow_lit W (base := W.heap.size) (e := 9) (size := 1) (ss.map Value.string).toArray ss.length (Nat.le_refl _) (by unfold maxLen; omega) (by simp)
    exact ⟨_, _, rfl, OwnS.of (by simpa using h) (Nat.le_refl _), (Below.refl _ _).alloc (Nat.le_refl _) _⟩
  have KC := hide kC
  have KH := hide kH
  have KS := hide kS
  obtain ⟨n, hn⟩ : ∃ n, ss.length = n := ⟨_, rfl⟩
  have HN := Lib.hid hn
  clear kC kH kS hz24 ec eh hlen hpc hjz hj2 hst hz hc hD hF hn HSP
  generalize cardT D F ss = T0 at *
  generalize headT D F = T1 at *
  generalize joinB ss = T2 at *
  go_enter Tryz.func28, Tryz.ntmps28
  go_wp2_with fail
  have kb := blk_new w (.cells #[.int .i64 0, .int .i64 0, .slice none 0 0] 26)
  have hb0 : Below w.heap.size w (w.alloc (.cells #[.int .i64 0, .int .i64 0, .slice none 0 0] 26)) := bel
  generalize (w.alloc (.cells #[.int .i64 0, .int .i64 0, .slice none 0 0] 26)) = w0 at *
  refine (KC.out w0 (hL.below hb0)).mono ?_
  rintro e w1 ⟨rfl, hb1⟩
  have B1 := hb0.trans (hb1.mono hb0.size)
  have k1 := blk_next kb hb1
  go_wp2_with fail
  refine (KH.out w1 (hL.below B1)).mono ?_
  rintro e w2 ⟨rfl, hb2⟩
  have B2 := B1.trans (hb2.mono B1.size)
  have k2 := blk_next k1 hb2
  go_wp2_with fail
  refine (i_ParseUint_num D w2 (by omega) (hT.below B2)).mono ?_
  rintro e w3 ⟨rfl, hb3⟩
  have B3 := B2.trans (hb3.mono B2.size)
  have k3 := blk_next k2 hb3
  go_wp2_with fail
  refine (i_ParseUint_num F w3 (by omega) (hT.below B3)).mono ?_
  rintro e w4 ⟨rfl, hb4⟩
  have B4 := B3.trans (hb4.mono B3.size)
  have k4 := blk_next k3 hb4
  go_wp2_with fail
  refine (KS.out w4 (hL.below B4)).mono ?_
  rintro e w5 ⟨As, cs, rfl, oS, hb5⟩
  have B5 := B4.trans (hb5.mono B4.size)
  have k5 := blk_next k4 hb5
  have z4 := B4.size
  rw [HN.out]
  clear KC KH KS kb k1 k2 k3 k4 B1 B2 B3 B4 hb0 hb1 hb2 hb3 hb4 hb5
  have kc := blk_new w5 (.cells #[.int .i64 (D : Int), .int .i64 (F : Int), .slice As n cs] 26)
  have k6 := blk_alloc k5 (.cells #[.int .i64 (D : Int), .int .i64 (F : Int), .slice As n cs] 26)
  have B6 := B5.alloc B5.size (.cells #[.int .i64 (D : Int), .int .i64 (F : Int), .slice As n cs] 26)
  have oS6 := oS.alloc (.cells #[.int .i64 (D : Int), .int .i64 (F : Int), .slice As n cs] 26)
  go_wp2_with fail
  generalize w5.alloc (.cells #[.int .i64 (D : Int), .int .i64 (F : Int), .slice As n cs] 26) = w6 at *
  obtain ⟨bc, hbc⟩ : ∃ x, x = w5.heap.size := ⟨_, rfl⟩
  rw [← hbc] at kc
  try rw [← hbc]
  have hz5 := B5.size
  have hbcw : w.heap.size ≤ bc := by omega
  clear hbc
  refine (i_CardOk D F As n cs ss w6 (HN.out ▸ oS6.rd (by omega) HZ.out)).mono ?_
  rw [HC.out]
  rintro e w7 ⟨rfl, hb7⟩
  have k7 := blk_next k6 hb7
  have kc7 := blk_next kc hb7
  have B7 := B6.trans (hb7.mono B6.size)
  have oS7 := oS6.below hb7
  obtain ⟨x0, x1, x2, xl⟩ := blk3 kc7
  have f0 := (blk_cells k7 0).2
  have f1 := (blk_cells k7 1).2
  have f2 := (blk_cells k7 2).2
  obtain ⟨y0, y1, y2, yl⟩ := blk3 k7
  have bx := boxAt_of k7
  go_wp2
  refine bodyPost_ret (v := .tuple #[.agg #[.int .i64 (D : Int), .int .i64 (F : Int), .slice As n cs], .bool true]) (by simp [results, Tryz.results28, go_sem, *]) rfl ?_
  clear x0 x1 x2 xl y0 y1 y2 yl f0 f1 f2
  have hn := HN.out
  subst hn
  obtain ⟨wE, he⟩ : ∃ x, x = ((w7.setCell ⟨w.heap.size, 0, none⟩ (.int .i64 (D : Int))).setCell ⟨w.heap.size, 1, none⟩ (.int .i64 (F : Int))).setCell ⟨w.heap.size, 2, none⟩ (.slice As ss.length cs) := ⟨_, rfl⟩
  have hX : Boxy w7 wE := by rw [he]; exact boxy
  have hB : Below w.heap.size w wE := by rw [he]; exact bel
  rw [← he]
  exact ⟨As, cs, rfl, own_base (oS7.boxy hX).row z4, hB⟩
end Go.Proofs.YtlimlolciekimaaGreatDoor
