/- The contracts of TurnCard, IsSymmetric and of the reference's IsAbove. -/
import Derived.Test.YteffbjddgdjkmaaTurn1
import Derived.Test.YteffbjddgdjkmaaMix3
import Derived.Test.YteffbjddgdjkmaaFrame
import Derived.Deep.RegionLaw
import Derived.Deep.AppendLies
import Derived.Deep.RegionHeld3
namespace Go.Proofs.Yteffbjddgdjkmaa
open Go.ChangeShapes Go.WideShapes Go.ChangeAt Go.RowKit Go.Sort
set_option linter.unusedVariables false
set_option linter.unusedSimpArgs false
set_option maxRecDepth 10000

theorem step_f (s : ByteArray) (k : Nat) (h : k < s.size) : (((s[k].toNat : Int) == 102) = true ∧ cnt 102 (s.data.toList.take (k + 1)) = cnt 102 (s.data.toList.take k) + 1) ∨ (((s[k].toNat : Int) == 102) = false ∧ cnt 102 (s.data.toList.take (k + 1)) = cnt 102 (s.data.toList.take k)) := by
  by_cases hf : s[k] = 102
  · exact .inl ⟨by rw [hf]; rfl, by rw [take_snoc s k h, cnt_snoc, if_pos hf]⟩
  · exact .inr ⟨by rw [beq_eq_false_iff_ne]; intro h; apply hf; apply UInt8.toNat_inj.1; show _ = 102; omega, by rw [take_snoc s k h, cnt_snoc, if_neg hf, Nat.add_zero]⟩
set_option maxHeartbeats 3200000 in
theorem s_IsAbove (s t : ByteArray) (w : World) (hs : s.size ≤ 16777216) (ht : t.size ≤ 16777216) (hf : sameFrame s.data.toList t.data.toList = true) :
    Calls Try.prog 31 #[.string s, .string t] w fun e w' => e = .returned (.bool (aboveL s.data.toList t.data.toList)) ∧ w = w' := by
  have hsf := fun (w : World) => s_SameFrame s t w hs ht
  simp only [hf] at hsf
  have HSF := hide hsf
  obtain ⟨htn, hs16⟩ := sameFrame_len hf
  have hlen : s.data.toList.length = s.size := by simp
  have HI := Lib.hid (above_iff hf)
  have HLEN := Lib.hid hlen
  clear hsf hf hlen
  go_enter Try.func31, Try.ntmps31
  go_wp2_with (go_at_call 101; refine (unhide HSF _).mono ?_; rintro e w' ⟨rfl, rfl⟩)
  go_loop [5, 6] (fun q i => ∃ (j : Nat) (P Q : Nat), j ≤ s.size ∧ i = .int .i64 j ∧ q = .int .i64 ((P : Int) - (Q : Int)) ∧ Hid (P = cnt 102 (s.data.toList.take j)) ∧ Hid (Q = cnt 102 (t.data.toList.take j)) ∧ Hid (∀ k, k ≤ j → cnt 102 (t.data.toList.take k) ≤ cnt 102 (s.data.toList.take k))) (fun _ i => s.size - (intOf i).toNat)
  case atStart => exact ⟨0, 0, 0, Nat.zero_le _, rfl, rfl, rfl, rfl, fun k hk => by have : k = 0 := Nat.le_zero.1 hk; subst this; simp⟩
  case round =>
    obtain ⟨j, P, Q, hj, rfl, rfl, HP, HQ, HA⟩ := hrel
    have hP16 : P ≤ 16777216 := by have h1 := cnt_le 102 (s.data.toList.take j); have h2 : (s.data.toList.take j).length ≤ j := List.length_take_le _ _; have := HP.out; omega
    have hQ16 : Q ≤ 16777216 := by have h1 := cnt_le 102 (t.data.toList.take j); have h2 : (t.data.toList.take j).length ≤ j := List.length_take_le _ _; have := HQ.out; omega
    by_cases hlt : j < s.size
    · have hlt2 : j < t.size := by omega
      have c1 := step_f s j hlt
      have c2 := step_f t j hlt2
      rw [← HP.out] at c1
      rw [← HQ.out] at c2
      rcases c1 with ⟨hb1, e1⟩ | ⟨hb1, e1⟩ <;> rcases c2 with ⟨hb2, e2⟩ | ⟨hb2, e2⟩
      all_goals
        obtain ⟨P', hP'⟩ : ∃ x, cnt 102 (s.data.toList.take (j + 1)) = x := ⟨_, rfl⟩
        obtain ⟨Q', hQ'⟩ : ∃ x, cnt 102 (t.data.toList.take (j + 1)) = x := ⟨_, rfl⟩
        rw [hP'] at e1
        rw [hQ'] at e2
        have HP' := Lib.hid hP'.symm
        have HQ' := Lib.hid hQ'.symm
        clear hP' hQ'
        by_cases hneg : P' < Q'
        · have hF : aboveL s.data.toList t.data.toList = false := by
            rw [← Bool.not_eq_true, HI.out]
            intro q
            have := q (j + 1) (by rw [HLEN.out]; omega)
            rw [← HP'.out, ← HQ'.out] at this
            omega
          have HF := Lib.hid hF
          clear hF
          go_wp2
          go_ret
          exact ⟨by rw [HF.out]; rfl, rfl⟩
        · have hA2 : ∀ k, k ≤ j + 1 → cnt 102 (t.data.toList.take k) ≤ cnt 102 (s.data.toList.take k) := by
            intro k hk
            by_cases hkj : k ≤ j
            · exact HA.out k hkj
            · have : k = j + 1 := by omega
              subst this
              rw [← HP'.out, ← HQ'.out]
              omega
          have HA2 := hide hA2
          clear hA2
          go_wp2
          go_round
          case rel => exact ⟨j + 1, P', Q', by omega, by go_num, congrArg (Value.int .i64) (by omega), HP'.out, HQ'.out, HA2.out⟩
          case measure => simp [intOf]; omega
    · have hje : j = s.size := by omega
      subst hje
      have hT : aboveL s.data.toList t.data.toList = true := HI.out.2 fun k hk => HA.out k (by rw [HLEN.out] at hk; exact hk)
      have HT := Lib.hid hT
      clear hT
      go_wp2
      go_ret
      exact ⟨by rw [HT.out]; rfl, rfl⟩
theorem map_take1 {α β : Type} (g : α → β) (l : List α) (j : Nat) (h : j < l.length) : (l.map g).take (j + 1) = (l.map g).take j ++ [g l[j]] := by
  rw [List.take_succ_eq_append_getElem (by simpa using h), List.getElem_map]
set_option maxHeartbeats 3200000 in
theorem i_TurnCard (d f : Int) (B : Nat) (A : Option Addr) (n c : Nat) (ss : List ByteArray) (w : World) (hS : Strs w B A n ss) (hB : B ≤ w.heap.size) (hc : cardOk d f ss = true) :
    Calls Try.prog 25 #[.agg #[.int .i64 d, .int .i64 f, .slice A n c]] w (CardN n f d ((ss.map turnB).map Value.string) w) := by
  obtain ⟨i0, hi0, hi1, hi2, hi3⟩ := info_parts info_str
  have hn := hS.nb
  have hl := hS.len
  have HL := Lib.hid hl
  have HC := Lib.hid hc
  have hTL : ((ss.map turnB).length = n) := by rw [List.length_map]; exact hl
  have HTL := Lib.hid hTL
  clear hl hc hTL
  go_enter Try.func25, Try.ntmps25
  go_wp2_with fail
  have hkc0 := blk_alloc (blk_new w (.cells #[.int .i64 d, .int .i64 f, .slice A n c] 26)) (.cells #[.int .i64 0, .int .i64 0, .slice none 0 0] 26)
  have hkr0 := blk_new_at (w.alloc (.cells #[.int .i64 d, .int .i64 f, .slice A n c] 26)) (.cells #[.int .i64 0, .int .i64 0, .slice none 0 0] 26) (k := w.heap.size + 1) (by simp)
  have hb0 : Below w.heap.size w ((w.alloc (.cells #[.int .i64 d, .int .i64 f, .slice A n c] 26)).alloc (.cells #[.int .i64 0, .int .i64 0, .slice none 0 0] 26)) := bel
  generalize ((w.alloc (.cells #[.int .i64 d, .int .i64 f, .slice A n c] 26)).alloc (.cells #[.int .i64 0, .int .i64 0, .slice none 0 0] 26)) = w0 at *
  have hz0 := hb0.size
  refine (i_CardOk d f A n c ss w0 ((hS.below (hb0.mono hB)).more (by omega))).mono ?_
  rw [HC.out]
  rintro e w1 ⟨rfl, hb1⟩
  have hkc1 := blk_next hkc0 hb1
  have hkr1 := blk_next hkr0 hb1
  have hbw1 : Below w.heap.size w w1 := hb0.trans (hb1.mono hz0)
  clear hkc0 hkr0 hb0 hb1 hz0
  have hz1 := hbw1.size
  obtain ⟨R, hR⟩ : ∃ R, w.heap.size + 1 = R := ⟨_, rfl⟩
  rw [hR] at hkr1 ⊢
  have hwR : w.heap.size < R := by omega
  have hRl := blk_lt hkr1
  clear hR
  obtain ⟨hx0, hx1, hx2, hxl⟩ := blk3 hkc1
  go_wp2
  clear hx0 hx1 hx2 hxl
  have hkc2 := blk_alloc hkc1 (.cells #[.int .i64 f, .int .i64 d, .slice none 0 0] 26)
  have hkr2 := blk_alloc hkr1 (.cells #[.int .i64 f, .int .i64 d, .slice none 0 0] 26)
  have hko2 := blk_new w1 (.cells #[.int .i64 f, .int .i64 d, .slice none 0 0] 26)
  have hbw2 : Below w.heap.size w (w1.alloc (.cells #[.int .i64 f, .int .i64 d, .slice none 0 0] 26)) := hbw1.trans ((Below.refl _ _).alloc hz1 _)
  have hO0 : w1.heap.size < (w1.alloc (.cells #[.int .i64 f, .int .i64 d, .slice none 0 0] 26)).heap.size := by simp
  generalize (w1.alloc (.cells #[.int .i64 f, .int .i64 d, .slice none 0 0] 26)) = w2 at *
  obtain ⟨O, hO⟩ : ∃ O, w1.heap.size = O := ⟨_, rfl⟩
  rw [hO] at hko2 hO0 hRl ⊢
  have hwO : w.heap.size < O := by omega
  clear hO hkc1 hkr1 hbw1
  go_loopw [18] (fun i wr => ∃ (j : Nat) (A' : Option Addr) (c' : Nat), j ≤ n ∧ i = .int .i64 j ∧ wr.heap[O]? = some (.cells #[.int .i64 f, .int .i64 d, .slice A' j c'] 26 (0, 0)) ∧ wr.heap[w.heap.size]? = some (.cells #[.int .i64 d, .int .i64 f, .slice A n c] 26 (0, 0)) ∧ wr.heap[R]? = some (.cells #[.int .i64 0, .int .i64 0, .slice none 0 0] 26 (0, 0)) ∧ wr.ownsRow (O + 1) 9 1 (.slice A' j c') j (((ss.map turnB).take j).map Value.string) ∧ Below w.heap.size w wr ∧ O < wr.heap.size) (fun i _ => n - (intOf i).toNat)
  case atStart => exact ⟨0, none, 0, Nat.zero_le _, rfl, hko2, hkc2, hkr2, World.ownsRow_nil _ _ _ _, hbw2, hO0⟩
  case round =>
    obtain ⟨j, A', c', hj, rfl, hko, hkc, hkr, hown, hb, hOr⟩ := hrel
    have hzr := hb.size
    clear hko2 hkc2 hkr2 hbw2 hO0
    obtain ⟨hx0, hx1, hx2, hxl⟩ := blk3 hko
    have hf2 := (blk_cells hko 2).2
    by_cases hlt : j < n
    · obtain ⟨hk', ad, rfl, hab, hcw, hsb⟩ := (hS.below (hb.mono hB)).at_ (k := j) hlt
      have HST : Hid (((ss.map turnB).take j).map Value.string ++ [Value.string (turnB ss[j])] = ((ss.map turnB).take (j + 1)).map Value.string) := by unfold Hid; rw [map_take1 turnB ss j hk', List.map_append]; rfl
      have HF := hide (fun (W : World) => i_TurnStrip ss[j] W hsb)
      generalize turnB ss[j] = T at *
      generalize ss[j] = S at *
      have hone : ∀ u ∈ [Value.string T], u.oneCell' = true := by intro u hu; simp at hu; subst hu; rfl
      have hHone := hide hone
      clear hone
      go_wp2
      go_region_law (first | (go_simp; go_at_call 28; refine (HF.out _).mono ?_; rintro e w9 ⟨rfl, hb9⟩; have hown9 : w9.ownsRow (O + 1) 9 1 (.slice A' j c') j (((ss.map turnB).take j).map Value.string) := (by first | exact own_below hown hb9 | exact own_below hown.drew hb9 | exact own_below (own_drewN hown _) hb9); have hs9 := hb9.size; (try simp at hs9); have hko9 : w9.heap[O]? = some (.cells #[.int .i64 f, .int .i64 d, .slice A' j c'] 26 (0, 0)) := (by first | exact blk_next hko hb9 | exact blk_next (blk_drew hko) hb9); have hkr9 : w9.heap[R]? = some (.cells #[.int .i64 0, .int .i64 0, .slice none 0 0] 26 (0, 0)) := (by first | exact blk_next hkr hb9 | exact blk_next (blk_drew hkr) hb9); have hkc9 : w9.heap[w.heap.size]? = some (.cells #[.int .i64 d, .int .i64 f, .slice (some ad) n c] 26 (0, 0)) := (by first | exact blk_next hkc hb9 | exact blk_next (blk_drew hkc) hb9); have hO9 : O < w9.heap.size := blk_lt hko9; have hbw9 : Below w.heap.size w w9 := (by first | exact hb.trans (hb9.mono hzr) | exact hb.drew.trans (hb9.mono hzr)); have hcw9 := (blk_cells hko9 2).1; have hfw9 := (blk_cells hko9 2).2) | (refine step_append_sl _ rfl (.tmp 23) (.tmp 26) _ rfl (O + 1) 9 i0 _ 1 16 Try.underlying24 hi0 hi1 hi2 hi3 rfl (by omega) (.slice A' j c') j (((ss.map turnB).take j).map Value.string) rfl ?_ (w9.heap.size + 1) (some ⟨w9.heap.size, 0, none⟩) 1 1 [Value.string T] rfl ?_ hHone.out ?_ ?_ ?_ ?_; (focus ((repeat (first | (with_reducible exact hown9) | (with_reducible refine World.ownsRow.drew ?_) | (with_reducible refine World.ownsRow.alloc ?_ _))); (first | done | fail))); (first | exact (reads_one _ _).drew | exact (reads_one _ _)); (unfold maxLen; omega); omega; (simp; omega); intro A3 c3 w3 ho3 hb3; have hko3 : w3.heap[O]? = some (.cells #[.int .i64 f, .int .i64 d, .slice A' j c'] 26 (0, 0)) := blk_below (by first | exact blk_alloc hko9 _ | exact blk_drew (blk_alloc hko9 _)) hb3 (by omega); have hco3 := (blk_cells hko3 2).1; have hfo3 := (blk_cells hko3 2).2; have hbw3 : Below w.heap.size w w3 := (by first | exact (hbw9.alloc hbw9.size _).trans (hb3.mono (by omega)) | exact (hbw9.alloc hbw9.size _).drew.trans (hb3.mono (by omega))); have hkr3 : w3.heap[R]? = some (.cells #[.int .i64 0, .int .i64 0, .slice none 0 0] 26 (0, 0)) := blk_below (by first | exact blk_alloc hkr9 _ | exact blk_drew (blk_alloc hkr9 _)) hb3 (by omega); have hkc3 : w3.heap[w.heap.size]? = some (.cells #[.int .i64 d, .int .i64 f, .slice (some ad) n c] 26 (0, 0)) := blk_below (by first | exact blk_alloc hkc9 _ | exact blk_drew (blk_alloc hkc9 _)) hb3 (by omega)))
      all_goals
        go_wp2
        go_roundw
        case rel =>
          rw [HST.out] at ho3
          exact ⟨j + 1, A3, c3, by omega, by go_num, by simpa using blk_set hko3 2 (.slice A3 (j + 1) c3), blk_other hkc3 (show ¬ w.heap.size = O by omega) _, blk_other hkr3 (show ¬ R = O by omega) _, ownsRow_setCell_below ho3 (by simp) _, hbw3.setCell (show w.heap.size ≤ O by omega) _, by have := blk_lt hko3; simp [World.setCell]; omega⟩
        case measure => simp [intOf]; omega
    · have hjn : j = n := by omega
      subst hjn
      have ht : (ss.map turnB).take j = ss.map turnB := List.take_of_length_le (by rw [HTL.out]; exact Nat.le_refl _)
      rw [ht] at hown
      have HO3 := hide hown
      clear hlt hown ht
      obtain ⟨hy0, hy1, hy2, hyl⟩ := blk3 hkr
      have hg0 := (blk_cells hkr 0).2
      have hg1 := (blk_cells hkr 1).2
      have hg2 := (blk_cells hkr 2).2
      go_wp2
      refine bodyPost_ret (v := .agg #[.int .i64 f, .int .i64 d, .slice A' j c']) (by simp [results, Try.results25, go_sem, *]) rfl ?_
      refine ⟨A', c', rfl, ?_, ?_⟩
      · exact own_base (own3_set HO3.out hkr (by decide) _ _ _) (by omega)
      · exact hb.trans (by repeat (first | (with_reducible exact Below.refl _ _) | (refine Below.setCell ?_ (show w.heap.size ≤ R by omega) _)))
end Go.Proofs.Yteffbjddgdjkmaa
