/- Contracts of the program's and the reference's functions (Replay1, Run3i). -/
import Derived.Test.YteffbjddgdjkmaaGreatRows
import Derived.Test.YteffbjddgdjkmaaGreatQSo
import Derived.Test.YteffbjddgdjkmaaGreatQSr
namespace Go.Proofs.YteffbjddgdjkmaaGreat
open Go.ChangeShapes Go.WideShapes Go.ChangeAt Go.RowKit
set_option linter.unusedVariables false
set_option maxRecDepth 10000
def eqNN (a b : List Int) : Bool := decide (a = b)
theorem eqNN_len {a b : List Int} (h : a.length ≠ b.length) : eqNN a b = false := by
  unfold eqNN; rw [decide_eq_false_iff_not]; intro e; subst e; exact h rfl
theorem eqNN_at {a b : List Int} {j : Nat} (h1 : j < a.length) (h2 : j < b.length) (h : a[j] ≠ b[j]) : eqNN a b = false := by
  unfold eqNN; rw [decide_eq_false_iff_not]; intro e; subst e; exact h rfl
theorem eqNN_all {a b : List Int} {n : Nat} (h1 : a.length = n) (h2 : b.length = n) (h : a.take n = b.take n) : eqNN a b = true := by
  unfold eqNN; rw [decide_eq_true_iff]
  rw [List.take_of_length_le (by omega), List.take_of_length_le (by omega)] at h; exact h
set_option maxHeartbeats 800000 in
theorem equal_ints (B : Nat) (A1 A2 : Option Addr) (n1 n2 c1 c2 : Nat) (l1 l2 : List Int) (w : World) (h1 : Reads w B 1 A1 n1 (ints l1)) (h2 : Reads w B 1 A2 n2 (ints l2)) (hl1 : l1.length = n1) (hl2 : l2.length = n2) (hn1 : n1 ≤ 16777216) (hn2 : n2 ≤ 16777216) :
    Calls Tryz.prog 34 #[.slice A1 n1 c1, .slice A2 n2 c2] w fun e w' => e = .returned (.bool (eqNN l1 l2)) ∧ ∃ m, w' = w.drewN m := by
  have HL1 := Lib.hid hl1
  have HL2 := Lib.hid hl2
  by_cases hn : n1 = n2
  · subst hn
    clear hl1 hl2
    go_enter Tryz.func34, Tryz.ntmps34
    go_wp2
    go_loopw [13] (fun i wr => ∃ j m : Nat, j ≤ n1 ∧ i = .int .i64 j ∧ wr = w.drewN m ∧ Hid (l1.take j = l2.take j)) (fun i _ => n1 - (intOf i).toNat)
    case atStart => exact ⟨0, 0, Nat.zero_le _, rfl, rfl, by unfold Hid; simp⟩
    case round =>
      obtain ⟨j, m, hj, rfl, rfl, HT⟩ := hrel
      by_cases hlt : j < n1
      · obtain ⟨hk1, ad1, rfl, hab1, hc1⟩ := ints_at h1 hlt
        obtain ⟨hk2, ad2, rfl, hab2, hc2⟩ := ints_at h2 hlt
        by_cases he : l1[j] = l2[j]
        · have HE := Lib.hid he
          go_wp2
          go_quiet (fail)
          go_wp2
          go_roundw
          case rel =>
            refine ⟨j + 1, _, by omega, by go_num, by first | rfl | exact World.drewN_drewN _ _ _, ?_⟩
            unfold Hid
            rw [List.take_succ_eq_append_getElem hk1, List.take_succ_eq_append_getElem hk2, HT.out, HE.out]
          case measure => simp [intOf]; omega
        · have HF := Lib.hid (eqNN_at hk1 hk2 he)
          go_wp2
          go_quiet (fail)
          go_wp2
          go_ret
          exact ⟨ret_bool HF.out.symm, by first | exact ⟨_, rfl⟩ | exact ⟨_, World.drewN_drewN _ _ _⟩⟩
      · have HF := Lib.hid (eqNN_all HL1.out HL2.out (by have h := HT.out; rwa [show j = n1 by omega] at h))
        go_wp2
        go_ret
        exact ⟨ret_bool HF.out.symm, by first | exact ⟨_, rfl⟩ | exact ⟨_, World.drewN_drewN _ _ _⟩⟩
  · have HF := Lib.hid (eqNN_len (a := l1) (b := l2) (by omega))
    clear hl1 hl2
    go_enter Tryz.func34, Tryz.ntmps34
    go_wp2
    go_ret
    exact ⟨ret_bool HF.out.symm, 0, rfl⟩
end Go.Proofs.YteffbjddgdjkmaaGreat
namespace Go.Proofs.YteffbjddgdjkmaaGreat
open Go.ChangeShapes Go.WideShapes Go.ChangeAt Go.RowKit
set_option linter.unusedVariables false
set_option linter.unusedSimpArgs false
set_option maxRecDepth 10000
set_option maxHeartbeats 3200000 in
theorem i_IsReplay (d1 f1 : Int) (ss1 : List ByteArray) (d2 f2 : Int) (ss2 : List ByteArray) (st : List PStep) (P : List PItem) (pp : List PPaper) (m : Int) (la : List PAct) (ln : List Int) (B : Nat) (A1 A2 A3 A4 A5 : Option Addr) (c1 c2 c3 c4 c5 : Nat) (Aa : Option Addr) (ca : Nat) (An : Option Addr) (cn : Nat) (w : World) (hS : RdWork w B A1 A2 A3 A4 c4 A5 ⟨d1, f1, ss1, d2, f2, ss2, st⟩ P pp) (hX : Acts w B Aa la.length la) (hN : Reads w B 1 An ln.length (ints ln)) (hln : ln.length ≤ 16777216) (hB : B ≤ w.heap.size) (hok : OkWork (PDraft.mk d1 f1 ss1 d2 f2 ss2 st) P pp 1048576) :
    Calls Tryz.prog 11 #[.agg #[.int .i64 d1, .int .i64 f1, .slice A1 ss1.length c1, .int .i64 d2, .int .i64 f2, .slice A2 ss2.length c2, .slice A3 st.length c3, .slice A4 P.length c4, .slice A5 pp.length c5, .int .i64 m], .slice Aa la.length ca, .slice An ln.length cn] w fun e w' => e = .returned (.bool (replay (PWork.mk (PDraft.mk d1 f1 ss1 d2 f2 ss2 st) P pp m) la ln)) ∧ Below w.heap.size w w' := by
  have hnX := hX.nb
  cases hw1 : workOk (PWork.mk (PDraft.mk d1 f1 ss1 d2 f2 ss2 st) P pp m)
  case false =>
    rw [replay_no1 (l := la) (ns := ln) hw1]
    have HW1 := Lib.hid hw1
    clear hw1
    have hxl := runRes_len (PWork.mk (PDraft.mk d1 f1 ss1 d2 f2 ss2 st) P pp m) la
    have hcall := fun (W : World) (hW1 : RdWork W B A1 A2 A3 A4 c4 A5 (PDraft.mk d1 f1 ss1 d2 f2 ss2 st) P pp) (hW2 : Acts W B Aa la.length la) (hW3 : B ≤ W.heap.size) => i_RunActs d1 f1 ss1 d2 f2 ss2 st P pp m la B A1 A2 A3 A4 A5 c1 c2 c3 c4 c5 Aa ca W hW1 hW2 hW3 hok
    generalize runRes (PWork.mk (PDraft.mk d1 f1 ss1 d2 f2 ss2 st) P pp m) la = R at *
    obtain ⟨⟨⟨d1r, f1r, ss1r, d2r, f2r, ss2r, str⟩, Pr, ppr, mr⟩, xs⟩ := R
    simp only at hcall hxl
    have HCALL := hide hcall
    clear hcall hok
    go_enter Tryz.func11, Tryz.ntmps11
    go_wp2_with fail
    obtain ⟨w1, e_⟩ : ∃ x, x = (w.alloc (.cells #[.int .i64 d1, .int .i64 f1, .slice A1 ss1.length c1, .int .i64 d2, .int .i64 f2, .slice A2 ss2.length c2, .slice A3 st.length c3, .slice A4 P.length c4, .slice A5 pp.length c5, .int .i64 m] 33)) := ⟨_, rfl⟩
    have k_a := hkc e_ (blk_new_at _ _ (k := w.heap.size) (by simp [World.setCell]))
    have hX_ : Boxy w w1 := by rw [e_]; exact boxy
    have hb_ : Below w.heap.size w w1 := by rw [e_]; exact bel
    have c_w1 := hX_.size
    rw [← e_]
    clear e_ hX_
    refine (unhide HCALL _ (hS.below (hb_.mono hB)) (hX.below (hb_.mono hB)) (Nat.le_trans hB hb_.size)).mono ?_
    rintro e w2 ⟨G1, q1, G2, q2, G3, q3, G4, q4, G5, q5, G6, q6, rfl, hon, b_⟩
    obtain ⟨l1, h1_, l2, h2_, hr9, ha9, hx, hy⟩ := hon.all
    clear hr9 ha9 hx hon
    replace k_a := blk_next k_a b_
    have c_w2 := b_.size
    replace hb_ := hb_.trans (b_.mono hb_.size)
    clear b_
    have o_N := hy
    clear hy
    obtain ⟨x0a,x1a,x2a,x3a,x4a,x5a,x6a,x7a,x8a,x9a,xla⟩ := blk10 k_a
    go_wp2_with fail
    clear x0a x1a x2a x3a x4a x5a x6a x7a x8a x9a xla
    have l_a := blk_lt k_a
    have lt_a_w3 := blk_lt k_a
    obtain ⟨w3, e_⟩ : ∃ x, x = (w2.alloc (.cells #[.int .i64 d1r, .int .i64 f1r, .slice G1 ss1r.length q1, .int .i64 d2r, .int .i64 f2r, .slice G2 ss2r.length q2, .slice G3 str.length q3, .slice G4 Pr.length q4, .slice G5 ppr.length q5, .int .i64 mr] 33)) := ⟨_, rfl⟩
    replace k_a := hkc e_ (blk_alloc k_a _)
    have k_x7 := hkc e_ (blk_new_at _ _ (k := w2.heap.size) (by simp [World.setCell]))
    have hX_ : Boxy w2 w3 := by rw [e_]; exact boxy
    replace o_N := o_N.boxy hX_
    replace hb_ : Below w.heap.size w w3 := by rw [e_]; exact bel
    have c_w3 := hX_.size
    rw [← e_]
    clear l_a e_ hX_
    refine (i_WorkshopOk d1 f1 ss1 d2 f2 ss2 st P pp m B A1 A2 A3 A4 A5 c1 c2 c3 c4 c5 w3 (hS.below (hb_.mono hB)) (Nat.le_trans hB hb_.size)).mono ?_
    rw [HW1.out]
    rintro e w4 ⟨rfl, b_⟩
    replace k_a := blk_next k_a b_
    replace k_x7 := blk_next k_x7 b_
    replace o_N := o_N.below b_
    have c_w4 := b_.size
    replace hb_ := hb_.trans (b_.mono hb_.size)
    clear b_
    go_wp2
    go_ret
    exact ⟨rfl, hb_⟩
  case true =>
    by_cases h40 : la.length ≤ 40
    case neg =>
      rw [replay_no2 (W := (PWork.mk (PDraft.mk d1 f1 ss1 d2 f2 ss2 st) P pp m)) (ns := ln) h40]
      have HW1 := Lib.hid hw1
      clear hw1
      have hxl := runRes_len (PWork.mk (PDraft.mk d1 f1 ss1 d2 f2 ss2 st) P pp m) la
      have hcall := fun (W : World) (hW1 : RdWork W B A1 A2 A3 A4 c4 A5 (PDraft.mk d1 f1 ss1 d2 f2 ss2 st) P pp) (hW2 : Acts W B Aa la.length la) (hW3 : B ≤ W.heap.size) => i_RunActs d1 f1 ss1 d2 f2 ss2 st P pp m la B A1 A2 A3 A4 A5 c1 c2 c3 c4 c5 Aa ca W hW1 hW2 hW3 hok
      generalize runRes (PWork.mk (PDraft.mk d1 f1 ss1 d2 f2 ss2 st) P pp m) la = R at *
      obtain ⟨⟨⟨d1r, f1r, ss1r, d2r, f2r, ss2r, str⟩, Pr, ppr, mr⟩, xs⟩ := R
      simp only at hcall hxl
      have HCALL := hide hcall
      clear hcall hok
      go_enter Tryz.func11, Tryz.ntmps11
      go_wp2_with fail
      obtain ⟨w1, e_⟩ : ∃ x, x = (w.alloc (.cells #[.int .i64 d1, .int .i64 f1, .slice A1 ss1.length c1, .int .i64 d2, .int .i64 f2, .slice A2 ss2.length c2, .slice A3 st.length c3, .slice A4 P.length c4, .slice A5 pp.length c5, .int .i64 m] 33)) := ⟨_, rfl⟩
      have k_a := hkc e_ (blk_new_at _ _ (k := w.heap.size) (by simp [World.setCell]))
      have hX_ : Boxy w w1 := by rw [e_]; exact boxy
      have hb_ : Below w.heap.size w w1 := by rw [e_]; exact bel
      have c_w1 := hX_.size
      rw [← e_]
      clear e_ hX_
      refine (unhide HCALL _ (hS.below (hb_.mono hB)) (hX.below (hb_.mono hB)) (Nat.le_trans hB hb_.size)).mono ?_
      rintro e w2 ⟨G1, q1, G2, q2, G3, q3, G4, q4, G5, q5, G6, q6, rfl, hon, b_⟩
      obtain ⟨l1, h1_, l2, h2_, hr9, ha9, hx, hy⟩ := hon.all
      clear hr9 ha9 hx hon
      replace k_a := blk_next k_a b_
      have c_w2 := b_.size
      replace hb_ := hb_.trans (b_.mono hb_.size)
      clear b_
      have o_N := hy
      clear hy
      obtain ⟨x0a,x1a,x2a,x3a,x4a,x5a,x6a,x7a,x8a,x9a,xla⟩ := blk10 k_a
      go_wp2_with fail
      clear x0a x1a x2a x3a x4a x5a x6a x7a x8a x9a xla
      have l_a := blk_lt k_a
      have lt_a_w3 := blk_lt k_a
      obtain ⟨w3, e_⟩ : ∃ x, x = (w2.alloc (.cells #[.int .i64 d1r, .int .i64 f1r, .slice G1 ss1r.length q1, .int .i64 d2r, .int .i64 f2r, .slice G2 ss2r.length q2, .slice G3 str.length q3, .slice G4 Pr.length q4, .slice G5 ppr.length q5, .int .i64 mr] 33)) := ⟨_, rfl⟩
      replace k_a := hkc e_ (blk_alloc k_a _)
      have k_x7 := hkc e_ (blk_new_at _ _ (k := w2.heap.size) (by simp [World.setCell]))
      have hX_ : Boxy w2 w3 := by rw [e_]; exact boxy
      replace o_N := o_N.boxy hX_
      replace hb_ : Below w.heap.size w w3 := by rw [e_]; exact bel
      have c_w3 := hX_.size
      rw [← e_]
      clear l_a e_ hX_
      refine (i_WorkshopOk d1 f1 ss1 d2 f2 ss2 st P pp m B A1 A2 A3 A4 A5 c1 c2 c3 c4 c5 w3 (hS.below (hb_.mono hB)) (Nat.le_trans hB hb_.size)).mono ?_
      rw [HW1.out]
      rintro e w4 ⟨rfl, b_⟩
      replace k_a := blk_next k_a b_
      replace k_x7 := blk_next k_x7 b_
      replace o_N := o_N.below b_
      have c_w4 := b_.size
      replace hb_ := hb_.trans (b_.mono hb_.size)
      clear b_
      go_wp2
      go_ret
      exact ⟨rfl, hb_⟩
    case pos =>
      rw [replay_yes (ns := ln) hw1 h40]
      have HW1 := Lib.hid hw1
      clear hw1
      have hxl := runRes_len (PWork.mk (PDraft.mk d1 f1 ss1 d2 f2 ss2 st) P pp m) la
      have hcall := fun (W : World) (hW1 : RdWork W B A1 A2 A3 A4 c4 A5 (PDraft.mk d1 f1 ss1 d2 f2 ss2 st) P pp) (hW2 : Acts W B Aa la.length la) (hW3 : B ≤ W.heap.size) => i_RunActs d1 f1 ss1 d2 f2 ss2 st P pp m la B A1 A2 A3 A4 A5 c1 c2 c3 c4 c5 Aa ca W hW1 hW2 hW3 hok
      generalize runRes (PWork.mk (PDraft.mk d1 f1 ss1 d2 f2 ss2 st) P pp m) la = R at *
      obtain ⟨⟨⟨d1r, f1r, ss1r, d2r, f2r, ss2r, str⟩, Pr, ppr, mr⟩, xs⟩ := R
      simp only at hcall hxl
      have HCALL := hide hcall
      clear hcall hok
      go_enter Tryz.func11, Tryz.ntmps11
      go_wp2_with fail
      obtain ⟨w1, e_⟩ : ∃ x, x = (w.alloc (.cells #[.int .i64 d1, .int .i64 f1, .slice A1 ss1.length c1, .int .i64 d2, .int .i64 f2, .slice A2 ss2.length c2, .slice A3 st.length c3, .slice A4 P.length c4, .slice A5 pp.length c5, .int .i64 m] 33)) := ⟨_, rfl⟩
      have k_a := hkc e_ (blk_new_at _ _ (k := w.heap.size) (by simp [World.setCell]))
      have hX_ : Boxy w w1 := by rw [e_]; exact boxy
      have hb_ : Below w.heap.size w w1 := by rw [e_]; exact bel
      have c_w1 := hX_.size
      rw [← e_]
      clear e_ hX_
      refine (unhide HCALL _ (hS.below (hb_.mono hB)) (hX.below (hb_.mono hB)) (Nat.le_trans hB hb_.size)).mono ?_
      rintro e w2 ⟨G1, q1, G2, q2, G3, q3, G4, q4, G5, q5, G6, q6, rfl, hon, b_⟩
      obtain ⟨l1, h1_, l2, h2_, hr9, ha9, hx, hy⟩ := hon.all
      clear hr9 ha9 hx hon
      replace k_a := blk_next k_a b_
      have c_w2 := b_.size
      replace hb_ := hb_.trans (b_.mono hb_.size)
      clear b_
      have o_N := hy
      clear hy
      obtain ⟨x0a,x1a,x2a,x3a,x4a,x5a,x6a,x7a,x8a,x9a,xla⟩ := blk10 k_a
      go_wp2_with fail
      clear x0a x1a x2a x3a x4a x5a x6a x7a x8a x9a xla
      have l_a := blk_lt k_a
      have lt_a_w3 := blk_lt k_a
      obtain ⟨w3, e_⟩ : ∃ x, x = (w2.alloc (.cells #[.int .i64 d1r, .int .i64 f1r, .slice G1 ss1r.length q1, .int .i64 d2r, .int .i64 f2r, .slice G2 ss2r.length q2, .slice G3 str.length q3, .slice G4 Pr.length q4, .slice G5 ppr.length q5, .int .i64 mr] 33)) := ⟨_, rfl⟩
      replace k_a := hkc e_ (blk_alloc k_a _)
      have k_x7 := hkc e_ (blk_new_at _ _ (k := w2.heap.size) (by simp [World.setCell]))
      have hX_ : Boxy w2 w3 := by rw [e_]; exact boxy
      replace o_N := o_N.boxy hX_
      replace hb_ : Below w.heap.size w w3 := by rw [e_]; exact bel
      have c_w3 := hX_.size
      rw [← e_]
      clear l_a e_ hX_
      refine (i_WorkshopOk d1 f1 ss1 d2 f2 ss2 st P pp m B A1 A2 A3 A4 A5 c1 c2 c3 c4 c5 w3 (hS.below (hb_.mono hB)) (Nat.le_trans hB hb_.size)).mono ?_
      rw [HW1.out]
      rintro e w4 ⟨rfl, b_⟩
      replace k_a := blk_next k_a b_
      replace k_x7 := blk_next k_x7 b_
      replace o_N := o_N.below b_
      have c_w4 := b_.size
      replace hb_ := hb_.trans (b_.mono hb_.size)
      clear b_
      go_wp2_with fail
      have hl0 : xs.length ≤ 16777216 := by omega
      refine (equal_ints w4.heap.size _ _ _ _ _ _ xs ln w4 o_N.rd (hN.below (hb_.mono hB) |>.more (Nat.le_trans hB hb_.size)) rfl rfl hl0 hln).mono ?_
      rintro e wq ⟨rfl, mq, rfl⟩
      go_wp2
      go_ret
      exact ⟨rfl, below_drewN hb_ mq⟩
end Go.Proofs.YteffbjddgdjkmaaGreat
