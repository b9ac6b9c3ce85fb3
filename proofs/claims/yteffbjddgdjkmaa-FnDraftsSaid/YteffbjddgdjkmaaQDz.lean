/- Contracts of the program's and the reference's functions (Draw15, RoomP, DraftP, DraftQ, LexC). -/
import Derived.Lib.QuietBelow
import Derived.Test.YteffbjddgdjkmaaRows
import Derived.Test.YteffbjddgdjkmaaQDw
import Derived.Test.YteffbjddgdjkmaaQDu
import Derived.Test.YteffbjddgdjkmaaQDo
import Derived.Test.YteffbjddgdjkmaaQDe
import Derived.Test.YteffbjddgdjkmaaQDf
namespace Go.Proofs.Yteffbjddgdjkmaa
open Go.ChangeShapes Go.WideShapes Go.ChangeAt Go.RowKit
set_option linter.unusedVariables false
set_option linter.unusedSimpArgs false
set_option maxRecDepth 10000
set_option maxHeartbeats 3200000 in
theorem s_DrawDraft (B : Nat) (A : Option Addr) (c : Nat) (bs : List Int) (w : World) (hK : Code w B A bs) (hB : B ≤ w.heap.size) :
    Calls Try.prog 61 #[.slice A bs.length c] w fun e w' => ∃ (d1 f1 : Int) (ss1 : List ByteArray) (d2 f2 : Int) (ss2 : List ByteArray) (st : List PStep) (A1 : Option Addr) (c1 : Nat) (A2 : Option Addr) (c2 : Nat) (A3 : Option Addr) (c3 : Nat),
      draftOk ⟨d1, f1, ss1, d2, f2, ss2, st⟩ = true ∧ OkDraft ⟨d1, f1, ss1, d2, f2, ss2, st⟩ 1048576 ∧ st.length ≤ 6 ∧
      e = .returned (.agg #[.int .i64 d1, .int .i64 f1, .slice A1 ss1.length c1, .int .i64 d2, .int .i64 f2, .slice A2 ss2.length c2, .slice A3 st.length c3]) ∧ OwnD w' w.heap.size w'.heap.size A1 c1 A2 c2 A3 c3 ⟨d1, f1, ss1, d2, f2, ss2, st⟩ ∧ Below w.heap.size w w' := by
  go_enter Try.func61, Try.ntmps61
  go_wp2_with fail
  have hkr0 := blk_new w (.cells #[.int .i64 0, .int .i64 0, .slice none 0 0, .int .i64 0, .int .i64 0, .slice none 0 0, .slice none 0 0] 83)
  have hb0 : Below w.heap.size w (w.alloc (.cells #[.int .i64 0, .int .i64 0, .slice none 0 0, .int .i64 0, .int .i64 0, .slice none 0 0, .slice none 0 0] 83)) := bel
  have hs0 : (w.alloc (.cells #[.int .i64 0, .int .i64 0, .slice none 0 0, .int .i64 0, .int .i64 0, .slice none 0 0, .slice none 0 0] 83)).heap.size = w.heap.size + 1 := by simp
  generalize w.alloc (.cells #[.int .i64 0, .int .i64 0, .slice none 0 0, .int .i64 0, .int .i64 0, .slice none 0 0, .slice none 0 0] 83) = w0 at *
  refine (s_l01New B A c bs w0 (hK.below (hb0.mono hB)) (by omega)).mono ?_
  rintro e w1 ⟨rfl, C1, hb1⟩
  have k_r1 := blk_next hkr0 hb1
  have hbw1 : Below w.heap.size w w1 := hb0.trans (hb1.mono (by omega))
  have hs1 := hb1.size
  obtain ⟨g, hg⟩ : ∃ x, x = w0.heap.size := ⟨_, rfl⟩
  rw [← hg] at C1 ⊢
  obtain ⟨br, hbr⟩ : ∃ x, x = w.heap.size := ⟨_, rfl⟩
  rw [← hbr] at k_r1 ⊢
  have hrg : br < g := by omega
  have hwr : w.heap.size ≤ br := by omega
  have hs2 : w.heap.size ≤ w1.heap.size := hbw1.size
  clear hkr0 hb0 hb1 hg hbr hs0 hs1
  go_wp2_with fail
  refine (s_l37Draft g B A c bs w1 C1).mono ?_
  rintro e w2 ⟨d1, f1, ss1, d2, f2, ss2, st, A1, c1, A2, c2, A3, c3, hok, hz, hst, rfl, o_D, C2, g2⟩
  have HOK := Lib.hid hok
  have HZ := hide hz
  clear hok hz
  have k_r2 := C1.blk_keep k_r1 (show br ≠ g by omega) g2
  have hbw2 : Below w.heap.size w w2 := hbw1.trans (grown_below g2 (fun k hk => by injection hk with hk; omega) hs2)
  clear C1 k_r1 g2 hbw1
  obtain ⟨q0, q1, q2, q3, q4, q5, q6, ql⟩ := blk7 k_r2
  obtain ⟨⟨t0, t1, t2, t3⟩, t4, t5, t6⟩ := bf7 k_r2
  have hgb : boxAt w2 br := boxAt_of k_r2
  go_wp2
  refine bodyPost_ret (v := .agg #[.int .i64 d1, .int .i64 f1, .slice A1 ss1.length c1, .int .i64 d2, .int .i64 f2, .slice A2 ss2.length c2, .slice A3 st.length c3]) (by simp [results, Try.results61, go_sem, *]) rfl ?_
  exact ⟨d1, f1, ss1, d2, f2, ss2, st, A1, c1, A2, c2, A3, c3, HOK.out, HZ.out, hst, rfl, (o_D.boxy boxy).wide hs2 (by simp [World.setCell]), hbw2.trans (by repeat (first | (with_reducible exact Below.refl _ _) | (with_reducible refine Below.setCell ?_ (show w.heap.size ≤ br from hwr) _)))⟩
end Go.Proofs.Yteffbjddgdjkmaa
namespace Go.Proofs.Yteffbjddgdjkmaa
set_option linter.unusedVariables false
set_option maxRecDepth 10000
theorem sumL_append (a b : List Int) : sumL (a ++ b) = sumL a + sumL b := by
  induction a with
  | nil => simp [sumL]
  | cons x l ih => simp only [List.cons_append, sumL, ih]; omega
theorem hts_swap (D : Int) (p : List UInt8) : ∀ q : List UInt8, hgt D (p ++ [100, 102] ++ q.reverse) = hgt D (p ++ [102, 100] ++ q.reverse) ∧ sumL (hts D (p ++ [102, 100] ++ q.reverse)) = sumL (hts D (p ++ [100, 102] ++ q.reverse)) + 1
  | [] => by
    have e1 : p ++ [100, 102] ++ [].reverse = (p ++ [100]) ++ [(102 : UInt8)] := by simp
    have e2 : p ++ [102, 100] ++ [].reverse = (p ++ [102]) ++ [(100 : UInt8)] := by simp
    rw [e1, e2]
    rw [hgt_snoc, hgt_snoc, hgt_snoc, hgt_snoc, hts_snoc, hts_snoc, hts_snoc, hts_snoc]
    simp [sumL_append, sumL, hgt_snoc]
    omega
  | x :: q => by
    obtain ⟨h1, h2⟩ := hts_swap D p q
    have e : ∀ r : List UInt8, p ++ r ++ (x :: q).reverse = (p ++ r ++ q.reverse) ++ [x] := fun r => by simp
    rw [e, e, hgt_snoc, hgt_snoc, hts_snoc, hts_snoc, sumL_append, sumL_append, h2, h1]
    refine ⟨rfl, ?_⟩
    omega
theorem volL_set (ss : List ByteArray) : ∀ (i : Nat) (h : i < ss.length) (x : ByteArray), volL (ss.set i x) = volL ss - roomOf ss[i].data.toList + roomOf x.data.toList := by
  induction ss with
  | nil => intro i h; exact absurd h (by simp)
  | cons a l ih =>
    intro i h x
    cases i with
    | zero => simp [volL]; omega
    | succ k =>
      simp only [List.set_cons_succ, volL, List.getElem_cons_succ]
      rw [ih k (by simpa using h) x]
      omega
theorem room_swap {c : UInt8} (hc : c = 100 ∨ c = 102) {s : ByteArray} {k : Int} (h : cornerB c s k = true) : roomOf (swapB s k).data.toList = roomOf s.data.toList + (if c = 100 then 1 else -1) := by
  obtain ⟨p, q, a, b, h1, hk, h2, ha, hb⟩ := swap_data h
  have hs : isStrip s.data.toList = true := by
    unfold cornerB cornerAny at h
    simp only [Bool.and_eq_true] at h
    exact h.1.1
  have hs2 : isStrip (swapB s k).data.toList = true := by rw [h2, isStrip_swap, ← h1]; exact hs
  have hb2 : b = 100 ∨ b = 102 := strip_letter (strip_cnt hs) b (by rw [h1]; simp)
  rw [roomOf_yes hs, roomOf_yes hs2]
  unfold htsOf
  rw [h2, h1, cnt_swap]
  obtain ⟨e1, e2⟩ := hts_swap (cnt 100 (p ++ [100, 102] ++ q) : Int) p q.reverse
  rw [List.reverse_reverse] at e2
  have e3 := cnt_swap 100 p q 102 100
  rcases hc with rfl | rfl
  · subst ha
    have hb3 : b = 102 := by
      rcases hb2 with e | e
      · exact absurd e hb
      · exact e
    subst hb3
    rw [e2]
    simp
  · subst ha
    have hb3 : b = 100 := by
      rcases hb2 with e | e
      · exact e
      · exact absurd e hb
    subst hb3
    rw [← e3, e2]
    simp
    omega
theorem allC_at {c : UInt8} {at_ : Int} {ss : List ByteArray} {F m i : Nat} (h : allC c at_ ss F m = true) (hi : i < m) (hl : F + i < ss.length) : cornerB c ss[F + i] at_ = true := by
  unfold allC at h
  rw [List.all_eq_true] at h
  refine h _ ?_
  rw [List.mem_take_iff_getElem]
  exact ⟨i, by rw [List.length_drop]; omega, by simp⟩
theorem vol_flips {c : UInt8} (hc : c = 100 ∨ c = 102) {at_ : Int} {ss : List ByteArray} {F m : Nat} (h : allC c at_ ss F m = true) : ∀ j, j ≤ m → F + j ≤ ss.length → volL (flips at_ ss F j) = volL ss + (if c = 100 then 1 else -1) * (j : Int)
  | 0, _, _ => by rw [flips_zero]; simp
  | j + 1, hj, hl => by
    have ih := vol_flips hc h j (by omega) (by omega)
    have hfl : F + j < (flips at_ ss F j).length := by rw [flips_len]; omega
    have hg : (flips at_ ss F j)[F + j] = ss[F + j]'(by omega) := by
      simp only [flips, List.getElem_mapIdx]
      rw [if_neg (by omega)]
    rw [← flips_step at_ ss F j (by omega), volL_set _ _ hfl, hg, room_swap hc (allC_at h (by omega) (by omega)), ih]
    rcases hc with rfl | rfl
    · simp; omega
    · simp; omega
def stepGain (s : PStep) : Int := if s.K = 1 then s.L - s.F + 1 else if s.K = 2 then -(s.L - s.F + 1) else roomOf s.a.data.toList - roomOf s.b.data.toList
theorem box_vol {c : UInt8} (hc : c = 100 ∨ c = 102) {d f : Int} {ss sn : List ByteArray} {F L T : Int} (h : boxRes c d f ss F L T = (sn, true)) : volL sn = volL ss + (if c = 100 then 1 else -1) * (L - F + 1) := by
  unfold boxRes at h
  split at h
  · rename_i q
    injection h with h1 _
    obtain ⟨q1, q2⟩ := q
    have hb : 0 ≤ F ∧ F ≤ L ∧ L < ss.length := by
      unfold boxOk at q1
      simp only [Bool.and_eq_true, decide_eq_true_eq] at q1
      have := inB_iff'.1 q1.1.2
      omega
    rw [← h1, vol_flips hc q2 _ (Nat.le_refl _) (by omega)]
    congr 2
    omega
  · injection h with _ h2; cases h2
theorem exch_vol {d f : Int} {ss sn : List ByteArray} {k : Int} {b a : ByteArray} (h : exchRes d f ss k b a = (sn, true)) : volL sn = volL ss - roomOf b.data.toList + roomOf a.data.toList := by
  unfold exchRes at h
  split at h
  · rename_i q
    simp only [Bool.and_eq_true, decide_eq_true_eq] at q
    have hk := inB_iff'.1 q.1.2
    have hkl : k.toNat < ss.length := by omega
    have hb : ss[k.toNat] = b := by rw [← q.2]; simp [List.getD, hkl]
    unfold putAt at h
    split at h
    · injection h with h1 _
      rw [← h1, volL_set _ _ hkl, hb]
    · injection h with _ h2; cases h2
  · injection h with _ h2; cases h2
theorem step_vol {d f : Int} {ss sn : List ByteArray} {s : PStep} (h : stepRes true d f ss s.K s.F s.L s.T s.I s.b s.a = (sn, true)) : volL sn = volL ss + stepGain s := by
  unfold stepRes at h
  unfold stepGain
  split at h
  · injection h with _ h2; cases h2
  · split at h
    · rename_i hk
      rw [if_pos hk, box_vol (.inl rfl) h]
      simp
    · rename_i hk1
      split at h
      · rename_i hk
        rw [if_neg hk1, if_pos hk, box_vol (.inr rfl) h]
        simp
      · rename_i hk2
        rw [if_neg hk1, if_neg hk2, exch_vol h]
        omega
def gainSum : List PStep → Int
  | [] => 0
  | s :: l => stepGain s + gainSum l
theorem runSteps_vol {d f : Int} : ∀ (l : List PStep) (ss sn : List ByteArray), runSteps d f l ss = some sn → volL sn = volL ss + gainSum l
  | [], ss, sn, h => by simp only [runSteps] at h; injection h with h; subst h; simp [gainSum]
  | s :: l, ss, sn, h => by
    simp only [runSteps] at h
    split at h
    · rename_i hq
      have h1 := runSteps_vol l _ _ h
      obtain ⟨sm, hsm⟩ : ∃ x, (stepRes true d f ss s.K s.F s.L s.T s.I s.b s.a).1 = x := ⟨_, rfl⟩
      have h2 : stepRes true d f ss s.K s.F s.L s.T s.I s.b s.a = (sm, true) := Prod.ext hsm hq
      rw [hsm] at h1
      rw [h1, step_vol h2, gainSum]
      omega
    · cases h
end Go.Proofs.Yteffbjddgdjkmaa
namespace Go.Proofs.Yteffbjddgdjkmaa
set_option linter.unusedVariables false
set_option maxRecDepth 10000
structure Part (D : PDraft) (k : Nat) (sk : List ByteArray) : Prop where
  run : runSteps D.d1 D.f1 (D.st.take k) D.ss1 = some sk
  ok : draftOk ⟨D.d1, D.f1, D.ss1, D.d2, D.f2, sk, D.st.take k⟩ = true
theorem part_of {D : PDraft} (h : draftOk D = true) (k : Nat) : ∃ sk, Part D k sk := by
  obtain ⟨⟨h1, h2⟩, h3, h4, h5⟩ := draftOk_iff.1 h
  have e : D.st = D.st.take k ++ D.st.drop k := (List.take_append_drop k D.st).symm
  rw [e, runSteps_append] at h5
  cases hr : runSteps D.d1 D.f1 (D.st.take k) D.ss1 with
  | none => rw [hr] at h5; cases h5
  | some sk => exact ⟨sk, hr, draftOk_iff.2 ⟨⟨h1, by show (D.st.take k).length ≤ 40; rw [List.length_take]; omega⟩, h3, h4, hr⟩⟩
theorem part_zero {D : PDraft} {sk : List ByteArray} (h : Part D 0 sk) : sk = D.ss1 := by
  have := h.run
  rw [List.take_zero] at this
  simp only [runSteps] at this
  injection this with this
  exact this.symm
theorem part_all {D : PDraft} (h : draftOk D = true) : Part D D.st.length D.ss2 := by
  obtain ⟨⟨h1, h2⟩, h3, h4, h5⟩ := draftOk_iff.1 h
  refine ⟨by rw [List.take_length]; exact h5, ?_⟩
  rw [List.take_length]
  exact h
theorem part_step {D : PDraft} {k : Nat} {sk sn : List ByteArray} (hk : k < D.st.length) (h : Part D k sk) (h' : Part D (k + 1) sn) : stepRes true D.d1 D.f1 sk D.st[k].K D.st[k].F D.st[k].L D.st[k].T D.st[k].I D.st[k].b D.st[k].a = (sn, true) := by
  have hr := h'.run
  rw [List.take_succ_eq_append_getElem hk, runSteps_append, h.run] at hr
  simp only [Option.bind_some] at hr
  rw [runSteps_one] at hr
  split at hr
  · rename_i hq
    injection hr with hr
    exact Prod.ext hr hq
  · cases hr
theorem part_undo {D : PDraft} {k : Nat} {sk sn : List ByteArray} (hD : draftOk D = true) (hk : k < D.st.length) (h : Part D k sk) (h' : Part D (k + 1) sn) :
    undoRes ⟨D.d1, D.f1, D.ss1, D.d2, D.f2, sn, D.st.take (k + 1)⟩ = (⟨D.d1, D.f1, D.ss1, D.d2, D.f2, sk, D.st.take k⟩, true) := by
  have hs := part_step hk h h'
  obtain ⟨_, h3, h4, _⟩ := draftOk_iff.1 hD
  have ho := h'.ok
  rw [List.take_succ_eq_append_getElem hk] at ho ⊢
  rw [undoRes_yes ho]
  rw [h3, h4] at hs
  have hb := step_back1 hs
  rw [hb]
theorem part_back {D : PDraft} {k : Nat} {sk sn : List ByteArray} (hD : draftOk D = true) (hk : k < D.st.length) (h : Part D k sk) (h' : Part D (k + 1) sn) :
    stepRes false D.d2 D.f2 sn D.st[k].K D.st[k].F D.st[k].L D.st[k].T D.st[k].I D.st[k].b D.st[k].a = (sk, true) := by
  have hs := part_step hk h h'
  obtain ⟨_, h3, h4, _⟩ := draftOk_iff.1 hD
  rw [h3, h4] at hs
  have ho := h'.ok
  rw [List.take_succ_eq_append_getElem hk] at ho
  have h2 := undo_ok (D := ⟨D.d1, D.f1, D.ss1, D.d2, D.f2, sn, D.st.take k ++ [D.st[k]]⟩) rfl ho
  exact Prod.ext (step_back1 hs) h2
theorem draft_gain {D : PDraft} (h : draftOk D = true) : gainOf D = gainSum D.st := by
  obtain ⟨⟨h1, h2⟩, h3, h4, h5⟩ := draftOk_iff.1 h
  have h6 := draft_card h
  unfold gainOf volOf
  rw [if_pos h, if_pos h6, if_pos h1, runSteps_vol _ _ _ h5]
  omega
theorem do_put {D : PDraft} {t : ByteArray} (h : draftOk D = true) (hs : D.st.length ≤ 6) (h0 : 0 < D.ss2.length) (hc : cardOk D.d2 D.f2 (D.ss2.set 0 t) = true) : doRes D ⟨3, 0, 0, 0, 0, D.ss2[0], t⟩ = (⟨D.d1, D.f1, D.ss1, D.d2, D.f2, D.ss2.set 0 t, D.st ++ [⟨3, 0, 0, 0, 0, D.ss2[0], t⟩]⟩, true) := by
  have hcd := draft_card h
  have hin : inB 0 0 ((D.ss2.length : Int) - 1) = true := inB_iff'.2 ⟨by omega, by omega⟩
  have hget : D.ss2.getD (0 : Int).toNat ByteArray.empty = D.ss2[0] := by simp [List.getD, h0]
  have hst : stepRes true D.d2 D.f2 D.ss2 3 0 0 0 0 D.ss2[0] t = (D.ss2.set 0 t, true) := by
    have hp : plainStep 3 0 0 0 0 D.ss2[0] t = true := by rw [plain_3]; rfl
    unfold stepRes
    rw [hp, if_neg (by simp), if_neg (by omega), if_neg (by omega), if_pos rfl]
    unfold exchRes
    rw [hcd, hin, hget, if_pos (by simp)]
    unfold putAt
    rw [hcd, hin, show (0 : Int).toNat = 0 from rfl, hc]
    rfl
  unfold doRes
  simp only [hst]
  rw [if_pos ⟨⟨h, by omega⟩, trivial⟩]
end Go.Proofs.Yteffbjddgdjkmaa
namespace Go.Proofs.Yteffbjddgdjkmaa
set_option linter.unusedVariables false
set_option maxRecDepth 10000
def GoodStep (s : PStep) : Prop := (0 ≤ s.F ∧ s.F ≤ 10 ∧ 0 ≤ s.L ∧ s.L ≤ 10) ∧ (s.K = 1 ∨ s.K = 2 ∨ s.K = 3) ∧ -300 ≤ stepGain s ∧ stepGain s ≤ 300
theorem box_fl {c : UInt8} {d f : Int} {ss sn : List ByteArray} {F L T : Int} (hl : ss.length ≤ 10) (h : boxRes c d f ss F L T = (sn, true)) : 0 ≤ F ∧ F ≤ L ∧ L ≤ 10 := by
  unfold boxRes at h
  split at h
  · rename_i q
    have q1 := q.1
    unfold boxOk at q1
    simp only [Bool.and_eq_true, decide_eq_true_eq] at q1
    have := inB_iff'.1 q1.1.2
    omega
  · injection h with _ h2; cases h2
theorem step_good {d f : Int} {ss sn : List ByteArray} {s : PStep} (hc : cardOk d f ss = true) (h : stepRes true d f ss s.K s.F s.L s.T s.I s.b s.a = (sn, true)) : GoodStep s := by
  have hl := (card_bounds hc).2.1.2
  have r1 := roomOf_bd s.a.data.toList
  have r2 := roomOf_bd s.b.data.toList
  unfold stepRes at h
  unfold GoodStep stepGain
  split at h
  · injection h with _ h2; cases h2
  · rename_i hp
    have hp2 : plainStep s.K s.F s.L s.T s.I s.b s.a = true := by simpa using hp
    have hK := plain_iff hp2
    split at h
    · rename_i hk
      have := box_fl hl h
      rw [if_pos hk]
      exact ⟨by omega, hK, by omega, by omega⟩
    · rename_i hk1
      split at h
      · rename_i hk
        have := box_fl hl h
        rw [if_neg hk1, if_pos hk]
        exact ⟨by omega, hK, by omega, by omega⟩
      · rename_i hk2
        have h3 : s.K = 3 := by omega
        rw [if_neg hk1, if_neg hk2]
        rw [h3, plain_3] at hp2
        simp only [Bool.and_eq_true, beq_iff_eq] at hp2
        exact ⟨by omega, hK, by omega, by omega⟩
theorem good_at {D : PDraft} (h : draftOk D = true) {k : Nat} (hk : k < D.st.length) : GoodStep D.st[k] := by
  obtain ⟨sk, p1⟩ := part_of h k
  obtain ⟨sn, p2⟩ := part_of h (k + 1)
  have hc := draft_card p1.ok
  obtain ⟨_, h3, h4, _⟩ := draftOk_iff.1 h
  simp only at hc
  rw [← h3, ← h4] at hc
  exact step_good hc (part_step hk p1 p2)
theorem gainSum_append (a b : List PStep) : gainSum (a ++ b) = gainSum a + gainSum b := by
  induction a with
  | nil => simp [gainSum]
  | cons x l ih => simp only [List.cons_append, gainSum, ih]; omega
theorem gain_take {l : List PStep} {k : Nat} (hk : k < l.length) : gainSum (l.take (k + 1)) = gainSum (l.take k) + stepGain l[k] := by
  rw [List.take_succ_eq_append_getElem hk, gainSum_append]
  simp [gainSum]
theorem gain_bd {D : PDraft} (h : draftOk D = true) : ∀ k : Nat, k ≤ D.st.length → -(300 * (k : Int)) ≤ gainSum (D.st.take k) ∧ gainSum (D.st.take k) ≤ 300 * (k : Int)
  | 0, _ => by simp [gainSum]
  | k + 1, hk => by
    have ih := gain_bd h k (by omega)
    have hg := (good_at h (show k < D.st.length by omega)).2.2
    rw [gain_take (show k < D.st.length by omega)]
    push_cast
    omega
theorem gain_12 {s : PStep} (h : s.K = 1) : stepGain s = s.L - s.F + 1 := by unfold stepGain; rw [if_pos h]
theorem gain_2 {s : PStep} (h : s.K = 2) : stepGain s = -(s.L - s.F + 1) := by unfold stepGain; rw [if_neg (by omega), if_pos h]
theorem gain_3 {s : PStep} (h : s.K = 3) : stepGain s = roomOf s.a.data.toList - roomOf s.b.data.toList := by unfold stepGain; rw [if_neg (by omega), if_neg (by omega)]
theorem high_card {d f : Nat} {ss : List ByteArray} {t : ByteArray} (hc : cardOk d f ss = true) (ht : Drew d f t) : cardOk d f (ss.set 0 t) = true := by
  have hb := (card_bounds hc).1
  have hst := drew_strip ht (by omega) (by omega) (by omega) (by omega)
  have hs : stripOf d f t = true := by
    obtain ⟨k1, k2, k3⟩ := ht
    unfold stripOf downOf forwardOf
    rw [hst, k1, k2]
    simp
  unfold cardOk at hc ⊢
  rw [List.length_set]
  simp only [Bool.and_eq_true, List.all_eq_true] at hc ⊢
  refine ⟨hc.1, hc.2.1, fun x hx => ?_⟩
  rcases List.mem_or_eq_of_mem_set hx with h1 | h1
  · exact hc.2.2 x h1
  · rw [h1]; exact hs
end Go.Proofs.Yteffbjddgdjkmaa
namespace Go
def lexL (md : Region.Mode) (ops : Array Oper) : Nat → List Oper → Bool
  | _, [] => true
  | k, o :: l => o.after.all (fun e => !Region.binds md e || Nat.blt e.on k) && l.all (fun o' => o'.after.any (fun e => Region.binds md e && e.on == k) || o.apart ops o') && lexL md ops (k + 1) l
theorem lexFrom_of (md : Region.Mode) (ops : Array Oper) : ∀ (l : List Oper) (k : Nat) (listed : Array Bool), (∀ j, l[j]? = ops[k + j]?) → k + l.length = ops.size → listed.size = ops.size →
    (∀ i, i < ops.size → listed[i]? = some (decide (i < k))) → lexL md ops k l = true → Region.lexFrom md ops l.length k listed = true
  | [], k, listed, _, hk, hs, hp, _ => by
    simp only [List.length_nil, Region.lexFrom, Region.ready, List.isEmpty_iff, List.filter_eq_nil_iff, List.mem_range]
    intro i hi
    have h1 := hp i hi
    have h2 : i < k := by simp at hk; omega
    simp [Array.getD_eq_getD_getElem?, h1, h2]
  | o :: l, k, listed, hl, hk, hs, hp, h => by
    simp only [lexL, Bool.and_eq_true] at h
    obtain ⟨⟨ha, hf⟩, hr⟩ := h
    have h0 : ops[k]? = some o := by simpa using (hl 0).symm
    have hkl : k < ops.size := by simp at hk; omega
    simp only [List.length_cons, Region.lexFrom, Bool.and_eq_true]
    refine ⟨⟨?_, ?_⟩, ?_⟩
    · rw [List.contains_iff_mem]
      simp only [Region.ready, List.mem_filter, List.mem_range]
      refine ⟨hkl, ?_⟩
      have hpk := hp k hkl
      simp only [Nat.lt_irrefl, decide_false] at hpk
      simp only [Array.getD_eq_getD_getElem?, hpk, h0, Option.map_some, Option.getD_some, Bool.not_false, Bool.true_and]
      rw [Array.all_eq_true'] at ha ⊢
      intro e he
      have h1 := ha e he
      rw [Bool.or_eq_true] at h1 ⊢
      refine h1.imp id fun h2 => ?_
      have h3 : e.on < k := by simpa [Nat.blt_eq] using h2
      rw [hp e.on (by omega)]
      simp [h3]
    · simp only [Region.free, h0, List.all_eq_true, List.mem_range]
      intro j hj
      by_cases hjk : j = k
      · simp [hjk]
      by_cases hlt : j < k
      · have := hp j hj
        simp [Array.getD_eq_getD_getElem?, this, hlt]
      have h1 := hl (j - k)
      have h2 : k + (j - k) = j := by omega
      rw [h2] at h1
      obtain ⟨oj, hoj⟩ : ∃ oj, ops[j]? = some oj := ⟨ops[j], by simp [hj]⟩
      have h3 : oj ∈ l := by
        rw [hoj] at h1
        have : (o :: l)[j - k]? = l[j - k - 1]? := by
          obtain ⟨m, hm⟩ : ∃ m, j - k = m + 1 := ⟨j - k - 1, by omega⟩
          rw [hm]; simp
        rw [this] at h1
        exact List.mem_of_getElem? h1
      have h4 := List.all_eq_true.1 hf oj h3
      simp only [hoj]
      rw [Bool.or_eq_true, Bool.or_eq_true]
      exact Or.inr h4
    · refine lexFrom_of md ops l (k + 1) _ (fun j => ?_) (by simp at hk; omega) (by simp [hs]) (fun i hi => ?_) hr
      · have := hl (j + 1)
        simpa [Nat.add_assoc, Nat.add_comm 1 j] using this
      · rw [Array.getElem?_setIfInBounds]
        by_cases hik : k = i
        · subst hik; simp [hs, hi]
        · rw [if_neg hik, hp i hi]
          have : (i < k) = (i < k + 1) := by apply propext; omega
          simp [this]
def lexC (l : List Oper) : Bool := Region.noSelect l.toArray && lexL .any l.toArray 0 l
theorem lexB_of {l : List Oper} (h : lexC l = true) : Region.lexB .any l.toArray = true := by
  simp only [lexC, Bool.and_eq_true] at h
  simp only [Region.lexB, Bool.and_eq_true]
  refine ⟨h.1, ?_⟩
  have := lexFrom_of .any l.toArray l 0 (Array.replicate l.toArray.size false) (by simp) (by simp) (by simp) (fun i hi => by simp at hi; simp [hi]) h.2
  simpa using this
end Go
