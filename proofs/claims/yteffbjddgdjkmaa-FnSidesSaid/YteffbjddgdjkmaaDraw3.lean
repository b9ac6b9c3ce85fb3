/- A card is drawn: l05Card. -/
import Derived.Test.YteffbjddgdjkmaaDraw2
namespace Go.Proofs.Yteffbjddgdjkmaa
open Go.ChangeShapes Go.WideShapes Go.ChangeAt Go.RowKit
set_option linter.unusedVariables false
set_option maxRecDepth 10000

theorem one_strD (s : ByteArray) : ∀ u ∈ [Value.string s], u.oneCell' = true := by intro u hu; simp at hu; subst hu; rfl
theorem snocD (ss : List ByteArray) (s : ByteArray) : ss.map Value.string ++ [Value.string s] = (ss ++ [s]).map Value.string := by simp
theorem all_snocD {d f : Nat} {ss : List ByteArray} {s : ByteArray} (h : ∀ x ∈ ss, Drew d f x) (k : Drew d f s) : ∀ x ∈ ss ++ [s], Drew d f x := by
  intro x hx
  rcases List.mem_append.1 hx with h1 | h1
  · exact h x h1
  · rw [List.mem_singleton.1 h1]; exact k
theorem grown_then {w a b : World} {row : Option Nat} (h : w.grownBy a row) (k : Below w.heap.size a b) : w.grownBy b row :=
  ⟨k.os.trans h.os, k.tape.trans h.tape, k.output.trans h.output, Nat.le_trans h.size k.size, fun i hi hne => (k.block i hi).trans (h.block i hi hne)⟩
section
variable {w w' : World} {g B : Nat} {A : Option Addr} {c : Nat} {bs : List Int}
theorem Cur.below2 {b : Nat} (h : Cur w g B A c bs) (hb : Below b w w') (hg : g < b) : Cur w' g B A c bs := by
  obtain ⟨i, q, h0, h1, hk⟩ := h.blk
  have hl := h.lo
  exact ⟨h.code.below (hb.mono (by omega)), h.lo, i, q, h0, h1, blk_below hk hb hg⟩
theorem Cur.put_other {p : Addr} (h : Cur w g B A c bs) (h1 : g ≠ p.block) (h2 : B ≤ p.block) (u : Value) : Cur (w.setCell p u) g B A c bs := by
  obtain ⟨i, q, k0, k1, hk⟩ := h.blk
  exact ⟨⟨h.code.rd.setCell h2 u, h.code.nb, h.code.bd⟩, h.lo, i, q, k0, k1, blk_other hk h1 u⟩
theorem Cur.own {base size n : Nat} {e : TypeId} {v : Value} {xs : List Value} (h : Cur w g B A c bs) (ho : w.ownsRow base e size v n xs) (he : e ∈ rowTys) (hg : w.grownBy w' (some g)) : w'.ownsRow base e size v n xs := by
  obtain ⟨i, q, k0, k1, hk⟩ := h.blk
  exact own_box ho he hk cur_notin hg
theorem Cur.blk_keep {b : Nat} {o : Obj} (h : Cur w g B A c bs) (hk : w.heap[b]? = some o) (hne : b ≠ g) (hg : w.grownBy w' (some g)) : w'.heap[b]? = some o :=
  (hg.block b (blk_lt hk) (fun e => hne (by injection e))).trans hk
end
/-- a card that was drawn, of the call's own -/
def DrawnCard (g B : Nat) (A : Option Addr) (c : Nat) (bs : List Int) (w : World) (e : Ending) (w' : World) : Prop :=
  ∃ (d f : Nat) (ss : List ByteArray) (A' : Option Addr) (c' : Nat), (1 ≤ d ∧ d ≤ 4 ∧ 1 ≤ f ∧ f ≤ 4 ∧ 1 ≤ ss.length ∧ ss.length ≤ 6) ∧ (∀ x ∈ ss, Drew d f x) ∧ e = .returned (.agg #[.int .i64 d, .int .i64 f, .slice A' ss.length c']) ∧ OwnS w' w.heap.size w'.heap.size A' c' ss ∧ Cur w' g B A c bs ∧ w.grownBy w' (some g)
set_option maxHeartbeats 6400000 in
theorem s_l05Card (g B : Nat) (A : Option Addr) (c : Nat) (bs : List Int) (w : World) (hC : Cur w g B A c bs) :
    Calls Try.prog 77 #[.pointer (some ⟨g, 0, none⟩)] w (DrawnCard g B A c bs w) := by
  have hgw := hC.lt
  have hlo := hC.lo
  obtain ⟨i0, hi0, hi1, hi2, hi3⟩ := info_parts info_str
  go_enter Try.func77, Try.ntmps77
  go_wp2_with fail
  have hkr0 := blk_new w (.cells #[.int .i64 0, .int .i64 0, .slice none 0 0] 26)
  have hC0 := hC.alloc (.cells #[.int .i64 0, .int .i64 0, .slice none 0 0] 26)
  have hg0 : w.grownBy (w.alloc (.cells #[.int .i64 0, .int .i64 0, .slice none 0 0] 26)) (some g) := grown_then (World.grownBy.refl w _) bel
  have hs0 : (w.alloc (.cells #[.int .i64 0, .int .i64 0, .slice none 0 0] 26)).heap.size = w.heap.size + 1 := by simp
  generalize w.alloc (.cells #[.int .i64 0, .int .i64 0, .slice none 0 0] 26) = w0 at *
  refine (s_l01Below 4 g B A c bs w0 hC0 (by omega) (by omega)).mono ?_
  rintro e w1 ⟨x1, rfl, hx1, hx1', hC1, hg1⟩
  have hkr1 := hC0.blk_keep hkr0 (by omega) hg1
  have hgr1 := only_trans hg0 hg1
  have hs1 := hg1.size
  go_wp2_with fail
  refine (s_l01Below 4 g B A c bs w1 hC1 (by omega) (by omega)).mono ?_
  rintro e w2 ⟨x2, rfl, hx2, hx2', hC2, hg2⟩
  have hkr2 := hC1.blk_keep hkr1 (by omega) hg2
  have hgr2 := only_trans hgr1 hg2
  have hs2 := hg2.size
  obtain ⟨d, hd⟩ : ∃ d : Nat, (d : Int) = 1 + x1 := ⟨(1 + x1).toNat, by omega⟩
  obtain ⟨f, hf⟩ : ∃ f : Nat, (f : Int) = 1 + x2 := ⟨(1 + x2).toNat, by omega⟩
  have hd4 : 1 ≤ d ∧ d ≤ 4 := by omega
  have hf4 : 1 ≤ f ∧ f ≤ 4 := by omega
  clear hC hC0 hC1 hg1 hg2 hg0 hgr1 hkr0 hkr1
  go_wp2_with fail
  rw [← hd, ← hf]
  clear hd hf hx1 hx1' hx2 hx2'
  have hko3 := blk_new w2 (.cells #[.int .i64 d, .int .i64 f, .slice none 0 0] 26)
  have hkr3 := blk_alloc hkr2 (.cells #[.int .i64 d, .int .i64 f, .slice none 0 0] 26)
  have hC3 := hC2.alloc (.cells #[.int .i64 d, .int .i64 f, .slice none 0 0] 26)
  have hg3 : w.grownBy (w2.alloc (.cells #[.int .i64 d, .int .i64 f, .slice none 0 0] 26)) (some g) := grown_then hgr2 bel
  have hs3 : (w2.alloc (.cells #[.int .i64 d, .int .i64 f, .slice none 0 0] 26)).heap.size = w2.heap.size + 1 := by simp
  generalize w2.alloc (.cells #[.int .i64 d, .int .i64 f, .slice none 0 0] 26) = w3 at *
  refine (s_l01Below 6 g B A c bs w3 hC3 (by omega) (by omega)).mono ?_
  rintro e w4 ⟨x3, rfl, hx3, hx3', hC4, hg4⟩
  have hko4 := hC3.blk_keep hko3 (by have := hC2.lt; omega) hg4
  have hkr4 := hC3.blk_keep hkr3 (by omega) hg4
  have hgr4 := only_trans hg3 hg4
  have hs4 := hg4.size
  obtain ⟨O, hO⟩ : ∃ O, w2.heap.size = O := ⟨_, rfl⟩
  have hgO2 := hC2.lt
  rw [hO] at hko4 hgO2
  have hwO : w.heap.size < O := by omega
  have hO4 : O < w4.heap.size := by omega
  obtain ⟨n, hn⟩ : ∃ n : Nat, (n : Int) = 1 + x3 := ⟨(1 + x3).toNat, by omega⟩
  have hn6 : 1 ≤ n ∧ n ≤ 6 := by omega
  clear hC2 hC3 hg3 hg4 hkr2 hkr3 hko3 hgr2
  go_wp2_with fail
  rw [← hn]
  try rw [hO]
  clear hn hx3 hx3' hs0 hs1 hs2 hs3 hs4
  go_loopw [5] (fun k wr => ∃ (j : Nat) (A' : Option Addr) (c' : Nat) (ss : List ByteArray), j ≤ n ∧ k = .int .i64 j ∧ Hid (ss.length = j) ∧ Hid (∀ x ∈ ss, Drew d f x) ∧ wr.heap[O]? = some (.cells #[.int .i64 d, .int .i64 f, .slice A' j c'] 26 (0, 0)) ∧ wr.heap[w.heap.size]? = some (.cells #[.int .i64 0, .int .i64 0, .slice none 0 0] 26 (0, 0)) ∧ wr.ownsRow (O + 1) 9 1 (.slice A' j c') j (ss.map Value.string) ∧ Cur wr g B A c bs ∧ w.grownBy wr (some g) ∧ O < wr.heap.size) (fun k _ => n - (intOf k).toNat)
  case atStart => exact ⟨0, none, 0, [], Nat.zero_le _, rfl, rfl, (fun x hx => by cases hx), hko4, hkr4, World.ownsRow_nil _ _ _ _, hC4, hgr4, hO4⟩
  case round =>
    obtain ⟨j, A', c', ss, hj, rfl, HL, HSS, hko, hkr, hown, hCr, hgr, hOr⟩ := hrel
    by_cases hlt : j < n
    · obtain ⟨hx0, hx1, hx2, hxl⟩ := blk3 hko
      go_wp2_with fail
      clear hx0 hx1 hx2 hxl
      refine (s_l02Draw d f g B A c bs wr hCr (by omega) (by omega)).mono ?_
      rintro e w3 ⟨s0, rfl, HS0, hC3, hg3⟩
      have hko3 := hCr.blk_keep hko (by omega) hg3
      have hkr3 := hCr.blk_keep hkr (by omega) hg3
      have own3 := hCr.own hown (by decide) hg3
      have hgr3 := only_trans hgr hg3
      have hO3 := Nat.lt_of_lt_of_le hOr hg3.size
      clear hko hkr hown hgr hg3 hCr hOr
      go_wp2_with fail
      refine (s_l01Below 4 g B A c bs w3 hC3 (by omega) (by omega)).mono ?_
      rintro e w4 ⟨x, rfl, hx, hx', hC4, hg4'⟩
      have hko4 := hC3.blk_keep hko3 (by omega) hg4'
      have hkr4 := hC3.blk_keep hkr3 (by omega) hg4'
      have own4 := hC3.own own3 (by decide) hg4'
      have hg4 := only_trans hgr3 hg4'
      have hO4 := Nat.lt_of_lt_of_le hO3 hg4'.size
      clear hko3 hkr3 own3 hgr3 hg4' hC3 hO3
      rcases (show x = 0 ∨ x = 1 ∨ x = 2 ∨ x = 3 by omega) with rfl | rfl | rfl | rfl
      · obtain ⟨hx0, hx1, hx2, hxl⟩ := blk3 hko4
        go_wp2_with fail
        clear hx0 hx1 hx2 hxl
        refine (s_FlatStrip d f w4 hd4.1 (by omega) hf4.1 (by omega)).mono ?_
        rintro e w' ⟨s1, rfl, HS1, hw⟩
        rw [hw]
        clear hw w'
        obtain ⟨hz0, hz1, hz2, hzl⟩ := blk3 hko4
        have hfz := (blk_cells hko4 2).2
        have hgO := hC4.lt
        go_wp2_with (at_builtin; refine wpList_append_N _ rfl (.tmp 48) (.tmp 50) _ rfl (O + 1) 9 i0 _ 1 16 Try.underlying24 hi0 hi1 hi2 hi3 rfl (by omega) (.slice A' j c') j _ rfl (own4.alloc _) (w4.heap.size + 1) (some ⟨w4.heap.size, 0, none⟩) 1 1 [Value.string s1] rfl (reads_one _ _) (one_strD _) ?_ ?_ ?_ (j + 1) _ rfl (snocD ss s1) ?_; (unfold maxLen; omega); omega; (simp; omega); intro A2 c2 w5 ho5 hb5; obtain ⟨hcb5, hfb5⟩ := bcellB hb5)
        go_roundw
        case rel =>
          have hk5 := blk_below (blk_alloc hko4 (.cells #[.string s1] 9)) hb5 (by omega)
          have hr5 := blk_below (blk_alloc hkr4 (.cells #[.string s1] 9)) hb5 (by omega)
          have hC5 := (hC4.alloc (.cells #[.string s1] 9)).below2 hb5 (by omega)
          have hE : Below w.heap.size w4 (w5.setCell ⟨O, 2, none⟩ (.slice A2 (j + 1) c2)) := bel
          have hs5 := hb5.size
          exact ⟨j + 1, A2, c2, ss ++ [s1], by omega, by go_num, by unfold Hid; have := HL.out; simp; omega, by unfold Hid; exact all_snocD HSS.out (HS1), by simpa using blk_set hk5 2 (.slice A2 (j + 1) c2), blk_other hr5 (show ¬ w.heap.size = O by omega) _, ownsRow_setCell_below ho5 (by simp) _, hC5.put_other (by simp; omega) (by simp; omega) _, grown_then hg4 hE, by simp [World.setCell] at hs5 ⊢; omega⟩
        case measure => simp [intOf]; omega
      · by_cases hj0 : 0 < j
        · obtain ⟨ad, u, rfl, hab, hu, hcu⟩ := (Reads.of_own own4).at_ (k := j - 1) (by omega)
          obtain ⟨s1, hs1, rfl⟩ : ∃ s1, s1 ∈ ss ∧ u = .string s1 := by
            rw [List.getElem?_map] at hu
            obtain ⟨q, hq, hqu⟩ := Option.map_eq_some_iff.1 hu
            exact ⟨q, List.mem_of_getElem? hq, hqu.symm⟩
          obtain ⟨K, hK⟩ : ∃ K, j - 1 = K := ⟨_, rfl⟩
          rw [hK] at hcu
          have hKj : (K : Int) < j := by omega
          have hidx : ((j : Int) - 1).toNat = K := by omega
          have hq1 : (0 : Int) ≤ (j : Int) - 1 := by omega
          have hq2 : (j : Int) - 1 < (j : Int) := by omega
          clear hu hK
          obtain ⟨hz0, hz1, hz2, hzl⟩ := blk3 hko4
          have hfz := (blk_cells hko4 2).2
          have hgO := hC4.lt
          go_wp2_with (at_builtin; refine wpList_append_N _ rfl (.tmp 48) (.tmp 50) _ rfl (O + 1) 9 i0 _ 1 16 Try.underlying24 hi0 hi1 hi2 hi3 rfl (by omega) (.slice (some ad) j c') j _ rfl (own4.alloc _) (w4.heap.size + 1) (some ⟨w4.heap.size, 0, none⟩) 1 1 [Value.string s1] rfl (reads_one _ _) (one_strD _) ?_ ?_ ?_ (j + 1) _ rfl (snocD ss s1) ?_; (unfold maxLen; omega); omega; (simp; omega); intro A2 c2 w5 ho5 hb5; obtain ⟨hcb5, hfb5⟩ := bcellB hb5)
          go_roundw
          case rel =>
            have hk5 := blk_below (blk_alloc hko4 (.cells #[.string s1] 9)) hb5 (by omega)
            have hr5 := blk_below (blk_alloc hkr4 (.cells #[.string s1] 9)) hb5 (by omega)
            have hC5 := (hC4.alloc (.cells #[.string s1] 9)).below2 hb5 (by omega)
            have hE : Below w.heap.size w4 (w5.setCell ⟨O, 2, none⟩ (.slice A2 (j + 1) c2)) := bel
            have hs5 := hb5.size
            exact ⟨j + 1, A2, c2, ss ++ [s1], by omega, by go_num, by unfold Hid; have := HL.out; simp; omega, by unfold Hid; exact all_snocD HSS.out (HSS.out _ hs1), by simpa using blk_set hk5 2 (.slice A2 (j + 1) c2), blk_other hr5 (show ¬ w.heap.size = O by omega) _, ownsRow_setCell_below ho5 (by simp) _, hC5.put_other (by simp; omega) (by simp; omega) _, grown_then hg4 hE, by simp [World.setCell] at hs5 ⊢; omega⟩
          case measure => simp [intOf]; omega
        · obtain ⟨hz0, hz1, hz2, hzl⟩ := blk3 hko4
          have hfz := (blk_cells hko4 2).2
          have hgO := hC4.lt
          go_wp2_with (at_builtin; refine wpList_append_N _ rfl (.tmp 48) (.tmp 50) _ rfl (O + 1) 9 i0 _ 1 16 Try.underlying24 hi0 hi1 hi2 hi3 rfl (by omega) (.slice A' j c') j _ rfl (own4.alloc _) (w4.heap.size + 1) (some ⟨w4.heap.size, 0, none⟩) 1 1 [Value.string s0] rfl (reads_one _ _) (one_strD _) ?_ ?_ ?_ (j + 1) _ rfl (snocD ss s0) ?_; (unfold maxLen; omega); omega; (simp; omega); intro A2 c2 w5 ho5 hb5; obtain ⟨hcb5, hfb5⟩ := bcellB hb5)
          go_roundw
          case rel =>
            have hk5 := blk_below (blk_alloc hko4 (.cells #[.string s0] 9)) hb5 (by omega)
            have hr5 := blk_below (blk_alloc hkr4 (.cells #[.string s0] 9)) hb5 (by omega)
            have hC5 := (hC4.alloc (.cells #[.string s0] 9)).below2 hb5 (by omega)
            have hE : Below w.heap.size w4 (w5.setCell ⟨O, 2, none⟩ (.slice A2 (j + 1) c2)) := bel
            have hs5 := hb5.size
            exact ⟨j + 1, A2, c2, ss ++ [s0], by omega, by go_num, by unfold Hid; have := HL.out; simp; omega, by unfold Hid; exact all_snocD HSS.out (HS0), by simpa using blk_set hk5 2 (.slice A2 (j + 1) c2), blk_other hr5 (show ¬ w.heap.size = O by omega) _, ownsRow_setCell_below ho5 (by simp) _, hC5.put_other (by simp; omega) (by simp; omega) _, grown_then hg4 hE, by simp [World.setCell] at hs5 ⊢; omega⟩
          case measure => simp [intOf]; omega
      · obtain ⟨hz0, hz1, hz2, hzl⟩ := blk3 hko4
        have hfz := (blk_cells hko4 2).2
        have hgO := hC4.lt
        go_wp2_with (at_builtin; refine wpList_append_N _ rfl (.tmp 48) (.tmp 50) _ rfl (O + 1) 9 i0 _ 1 16 Try.underlying24 hi0 hi1 hi2 hi3 rfl (by omega) (.slice A' j c') j _ rfl (own4.alloc _) (w4.heap.size + 1) (some ⟨w4.heap.size, 0, none⟩) 1 1 [Value.string s0] rfl (reads_one _ _) (one_strD _) ?_ ?_ ?_ (j + 1) _ rfl (snocD ss s0) ?_; (unfold maxLen; omega); omega; (simp; omega); intro A2 c2 w5 ho5 hb5; obtain ⟨hcb5, hfb5⟩ := bcellB hb5)
        go_roundw
        case rel =>
          have hk5 := blk_below (blk_alloc hko4 (.cells #[.string s0] 9)) hb5 (by omega)
          have hr5 := blk_below (blk_alloc hkr4 (.cells #[.string s0] 9)) hb5 (by omega)
          have hC5 := (hC4.alloc (.cells #[.string s0] 9)).below2 hb5 (by omega)
          have hE : Below w.heap.size w4 (w5.setCell ⟨O, 2, none⟩ (.slice A2 (j + 1) c2)) := bel
          have hs5 := hb5.size
          exact ⟨j + 1, A2, c2, ss ++ [s0], by omega, by go_num, by unfold Hid; have := HL.out; simp; omega, by unfold Hid; exact all_snocD HSS.out (HS0), by simpa using blk_set hk5 2 (.slice A2 (j + 1) c2), blk_other hr5 (show ¬ w.heap.size = O by omega) _, ownsRow_setCell_below ho5 (by simp) _, hC5.put_other (by simp; omega) (by simp; omega) _, grown_then hg4 hE, by simp [World.setCell] at hs5 ⊢; omega⟩
        case measure => simp [intOf]; omega
      · obtain ⟨hz0, hz1, hz2, hzl⟩ := blk3 hko4
        have hfz := (blk_cells hko4 2).2
        have hgO := hC4.lt
        go_wp2_with (at_builtin; refine wpList_append_N _ rfl (.tmp 48) (.tmp 50) _ rfl (O + 1) 9 i0 _ 1 16 Try.underlying24 hi0 hi1 hi2 hi3 rfl (by omega) (.slice A' j c') j _ rfl (own4.alloc _) (w4.heap.size + 1) (some ⟨w4.heap.size, 0, none⟩) 1 1 [Value.string s0] rfl (reads_one _ _) (one_strD _) ?_ ?_ ?_ (j + 1) _ rfl (snocD ss s0) ?_; (unfold maxLen; omega); omega; (simp; omega); intro A2 c2 w5 ho5 hb5; obtain ⟨hcb5, hfb5⟩ := bcellB hb5)
        go_roundw
        case rel =>
          have hk5 := blk_below (blk_alloc hko4 (.cells #[.string s0] 9)) hb5 (by omega)
          have hr5 := blk_below (blk_alloc hkr4 (.cells #[.string s0] 9)) hb5 (by omega)
          have hC5 := (hC4.alloc (.cells #[.string s0] 9)).below2 hb5 (by omega)
          have hE : Below w.heap.size w4 (w5.setCell ⟨O, 2, none⟩ (.slice A2 (j + 1) c2)) := bel
          have hs5 := hb5.size
          exact ⟨j + 1, A2, c2, ss ++ [s0], by omega, by go_num, by unfold Hid; have := HL.out; simp; omega, by unfold Hid; exact all_snocD HSS.out (HS0), by simpa using blk_set hk5 2 (.slice A2 (j + 1) c2), blk_other hr5 (show ¬ w.heap.size = O by omega) _, ownsRow_setCell_below ho5 (by simp) _, hC5.put_other (by simp; omega) (by simp; omega) _, grown_then hg4 hE, by simp [World.setCell] at hs5 ⊢; omega⟩
        case measure => simp [intOf]; omega
    · have hjn : j = n := by omega
      subst hjn
      obtain ⟨hx0, hx1, hx2, hxl⟩ := blk3 hko
      obtain ⟨hy0, hy1, hy2, hyl⟩ := blk3 hkr
      have hfy0 := (blk_cells hkr 0).2
      have hfy1 := (blk_cells hkr 1).2
      have hfy2 := (blk_cells hkr 2).2
      go_wp2
      refine bodyPost_ret (v := .agg #[.int .i64 d, .int .i64 f, .slice A' j c']) (by simp [results, Try.results77, go_sem, *]) rfl ?_
      have hbx := boxAt_of hkr
      have hlen := HL.out
      subst hlen
      obtain ⟨wE, heE⟩ : ∃ x, x = ((wr.setCell ⟨w.heap.size, 0, none⟩ (.int .i64 d)).setCell ⟨w.heap.size, 1, none⟩ (.int .i64 f)).setCell ⟨w.heap.size, 2, none⟩ (.slice A' ss.length c') := ⟨_, rfl⟩
      have hX : Boxy wr wE := by rw [heE]; exact boxy
      have hE : Below w.heap.size wr wE := by rw [heE]; exact bel
      have hCE : Cur wE g B A c bs := by rw [heE]; exact ((hCr.put_other (by simp; omega) (by simp; omega) _).put_other (by simp; omega) (by simp; omega) _).put_other (by simp; omega) (by simp; omega) _
      have hoE := own_boxy hown (by decide) hX
      rw [← heE]
      exact ⟨d, f, ss, A', c', by omega, HSS.out, rfl, (OwnS.of (own_base hoE (Nat.le_refl _)) (Nat.le_refl _)).wide (by omega) (Nat.le_refl _), hCE, grown_then hgr hE⟩
end Go.Proofs.Yteffbjddgdjkmaa
