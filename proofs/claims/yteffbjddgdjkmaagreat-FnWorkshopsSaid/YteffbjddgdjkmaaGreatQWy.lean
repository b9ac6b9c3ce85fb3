/- Contracts of the program's and the reference's functions (ShopP, ShopQ). -/
import Derived.Test.YteffbjddgdjkmaaGreatRows
import Derived.Test.YteffbjddgdjkmaaGreatQWw
import Derived.Test.YteffbjddgdjkmaaGreatQWl
import Derived.Test.YteffbjddgdjkmaaGreatQWn
import Derived.Test.YteffbjddgdjkmaaGreatQWf
namespace Go.Proofs.YteffbjddgdjkmaaGreat
set_option linter.unusedVariables false
set_option maxRecDepth 10000
def owl : ByteArray := ⟨#[111, 119, 108]⟩
theorem owl_ok : nameOk owl = true := by decide
theorem owl_not {x : ByteArray} (h : x ∈ drawNames) : x ≠ owl := by
  simp [drawNames] at h
  rcases h with rfl | rfl | rfl | rfl | rfl | rfl | rfl | rfl | rfl | rfl <;> decide
theorem toList_injS {a b : ByteArray} (h : a.toList = b.toList) : a = b := by
  rw [ByteArray.toList_eq, ByteArray.toList_eq] at h
  exact ba_ext h
theorem insP_nil (x : PItem) (j : Nat) : insP [] x j = [x] := by simp [insP]
theorem ins_sorted : ∀ (P : List PItem) (x : PItem), P.Pairwise (fun a b => Op.bytesLess a.nm.toList b.nm.toList = true) → (∀ y ∈ P, y.nm ≠ x.nm) →
    (insP P x (posOf P x.nm)).Pairwise (fun a b => Op.bytesLess a.nm.toList b.nm.toList = true)
  | [], x, _, _ => by rw [insP_nil]; exact List.pairwise_singleton _ _
  | y :: l, x, hp, hx => by
    rw [List.pairwise_cons] at hp
    unfold posOf
    by_cases h : nmLt y.nm x.nm = true
    · rw [if_pos h]
      have e : insP (y :: l) x (posOf l x.nm + 1) = y :: insP l x (posOf l x.nm) := by simp [insP]
      rw [e, List.pairwise_cons]
      refine ⟨fun z hz => ?_, ins_sorted l x hp.2 (fun z hz => hx z (List.mem_cons_of_mem _ hz))⟩
      rcases insP_mem hz with rfl | hz
      · exact h
      · exact hp.1 z hz
    · rw [if_neg h]
      have e : insP (y :: l) x 0 = x :: y :: l := by simp [insP]
      have hyx : Op.bytesLess x.nm.toList y.nm.toList = true := bytesLess_total _ _ (by simpa [nmLt] using h) (fun e => hx y (List.mem_cons_self ..) (toList_injS e))
      rw [e, List.pairwise_cons, List.pairwise_cons]
      refine ⟨fun z hz => ?_, hp⟩
      rcases List.mem_cons.1 hz with rfl | hz
      · exact hyx
      · exact bytesLess_trans hyx (hp.1 z hz)
theorem ins_cat {P : List PItem} {x : PItem} (h : catOk P = true) (hl : P.length < 20) (hn : nameOk x.nm = true) (hc : cardOk x.d x.f x.ss = true) (hx : ∀ y ∈ P, y.nm ≠ x.nm) : catOk (insP P x (posOf P x.nm)) = true := by
  obtain ⟨h1, h2, h3⟩ := catOk_iff.1 h
  refine catOk_iff.2 ⟨?_, fun y hy => ?_, ins_sorted P x h3 hx⟩
  · rw [insP_len _ _ _ (posOf_le P x.nm)]; omega
  · rcases insP_mem hy with rfl | hy
    · exact ⟨hn, hc⟩
    · exact h2 y hy
theorem ins_at {P : List PItem} {x : PItem} {j : Nat} (hj : j ≤ P.length) : (insP P x j)[j]? = some x := by
  unfold insP
  rw [List.getElem?_append_right (by rw [List.length_take]; omega)]
  have : j - (P.take j).length = 0 := by rw [List.length_take]; omega
  rw [this]; rfl
theorem ins_noNm {P : List PItem} {x : PItem} {j : Nat} (hj : j ≤ P.length) (hx : ∀ y ∈ P, y.nm ≠ x.nm) : noNm (insP P x j) x.nm j := by
  intro i hi y hy
  unfold insP at hy
  rw [List.getElem?_append_left (by rw [List.length_take]; omega)] at hy
  exact hx y (List.mem_of_mem_take (List.mem_of_getElem? hy))
theorem ins_idx {P : List PItem} {x : PItem} {j : Nat} (hj : j ≤ P.length) (hx : ∀ y ∈ P, y.nm ≠ x.nm) : idxNm (insP P x j) x.nm = some j := idxNm_some (ins_noNm hj hx) (ins_at hj) rfl
theorem ins_named {P : List PItem} {x : PItem} {j : Nat} (hj : j ≤ P.length) (hx : ∀ y ∈ P, y.nm ≠ x.nm) (hc : catOk (insP P x j) = true) : (named (insP P x j) x.nm).2.2 = true := by
  rw [named_yes hc (ins_idx hj hx) (ins_at hj)]
theorem ins_drop {P : List PItem} {x : PItem} {j : Nat} (hj : j ≤ P.length) (hx : ∀ y ∈ P, y.nm ≠ x.nm) (hc : catOk (insP P x j) = true) : dropped (insP P x j) x.nm = (P, true) := by
  rw [dropped_yes hc (ins_idx hj hx)]
  have h1 : (insP P x j).take j = P.take j := by unfold insP; rw [List.take_append_of_le_length (by rw [List.length_take]; omega), List.take_take, Nat.min_self]
  have h2 : (insP P x j).drop (j + 1) = P.drop j := by
    unfold insP
    rw [List.drop_append, List.drop_eq_nil_of_le (by rw [List.length_take]; omega)]
    have : j + 1 - (P.take j).length = 1 := by rw [List.length_take]; omega
    rw [this]; rfl
  rw [h1, h2, List.take_append_drop]
theorem no_named {P : List PItem} {nm : ByteArray} (hx : ∀ y ∈ P, y.nm ≠ nm) : (named P nm).2.2 = false := by
  rw [named_no2 (idxNm_none (fun i hi y hy => hx y (List.mem_of_getElem? hy)))]
theorem keep_owl {W : PWork} (h : workOk W = true) (hl : W.P.length < 20) (hx : ∀ y ∈ W.P, y.nm ≠ owl) : keepRes W owl = (⟨W.D, insP W.P ⟨owl, W.D.d2, W.D.f2, W.D.ss2⟩ (posOf W.P owl), W.pp, W.m⟩, true) ∧ catOk (insP W.P ⟨owl, W.D.d2, W.D.f2, W.D.ss2⟩ (posOf W.P owl)) = true := by
  obtain ⟨h1, h2, h3⟩ := workOk_iff.1 h
  have hc := ins_cat (x := ⟨owl, W.D.d2, W.D.f2, W.D.ss2⟩) h2 hl owl_ok (draft_card h1) hx
  have ha := added_yes (P := W.P) (x := ⟨owl, W.D.d2, W.D.f2, W.D.ss2⟩) rfl h2 hc
  refine ⟨?_, hc⟩
  unfold keepRes
  rw [ha, if_pos ⟨h, rfl⟩]
-- paper
theorem sumK_none {pp : List PPaper} {K : Int} (h : ∀ p ∈ pp, p.k ≠ K) : ∀ j, j ≤ pp.length → sumK pp K j = 0
  | 0, _ => rfl
  | j + 1, hj => by
    rw [sumK_no (show j < pp.length by omega) (h _ (List.getElem_mem _))]
    exact sumK_none h j (by omega)
theorem sumK_pre {pp qq : List PPaper} {K : Int} : ∀ j, j ≤ pp.length → sumK (pp ++ qq) K j = sumK pp K j
  | 0, _ => rfl
  | j + 1, hj => by
    have e : (pp ++ qq)[j]'(by rw [List.length_append]; omega) = pp[j] := List.getElem_append_left (by omega)
    by_cases hk : pp[j].k = K
    · rw [sumK_yes (show j < pp.length by omega) hk, sumK_yes (show j < (pp ++ qq).length by rw [List.length_append]; omega) (by rw [e]; exact hk), e, sumK_pre j (by omega)]
    · rw [sumK_no (show j < pp.length by omega) hk, sumK_no (show j < (pp ++ qq).length by rw [List.length_append]; omega) (by rw [e]; exact hk), sumK_pre j (by omega)]
theorem useN_pre {pp qq : List PPaper} {K x : Int} (h : ∀ p ∈ pp, p.k ≠ K) : ∀ j, j ≤ pp.length → useN (pp ++ qq) K x j = (pp ++ qq, x)
  | 0, _ => rfl
  | j + 1, hj => by
    have e : (pp ++ qq)[j]'(by rw [List.length_append]; omega) = pp[j] := List.getElem_append_left (by omega)
    rw [useN_no (show j < (pp ++ qq).length by rw [List.length_append]; omega) (by rw [e]; exact h _ (List.getElem_mem _)), useN_pre h j (by omega)]
theorem last_at (pp : List PPaper) (x : PPaper) : (pp ++ [x])[pp.length]'(by simp) = x := by simp
theorem sheets_last {pp : List PPaper} {g s : Int} (h : ∀ p ∈ pp, p.k ≠ 7) (hp : papOk (pp ++ [⟨7, g, s⟩]) = true) : sheetsL (pp ++ [⟨7, g, s⟩]) 7 = s := by
  rw [sheetsL_yes hp]
  have hl : (pp ++ [(⟨7, g, s⟩ : PPaper)]).length = pp.length + 1 := by simp
  rw [hl, sumK_yes (show pp.length < (pp ++ [(⟨7, g, s⟩ : PPaper)]).length by omega) (by rw [last_at]), last_at, sumK_pre _ (Nat.le_refl _), sumK_none h _ (Nat.le_refl _)]
  show 0 + s = s
  omega
theorem sheets_none {pp : List PPaper} (h : ∀ p ∈ pp, p.k ≠ 7) : sheetsL pp 7 = 0 := by
  unfold sheetsL
  split
  · exact sumK_none h _ (Nat.le_refl _)
  · rfl
theorem use_last {pp : List PPaper} {g n : Int} (h : ∀ p ∈ pp, p.k ≠ 7) (hp : papOk (pp ++ [⟨7, g, n⟩]) = true) (hl : pp.length < 20) (hn : 0 ≤ n) : useRes (pp ++ [⟨7, g, n⟩]) 7 n = (pp ++ [⟨7, g, 0⟩], true) := by
  have hlen : (pp ++ [(⟨7, g, n⟩ : PPaper)]).length = pp.length + 1 := by simp
  rw [useRes_yes (by omega) hp hn (by rw [sheets_last h hp]; omega), hlen, useN_yes (show pp.length < (pp ++ [(⟨7, g, n⟩ : PPaper)]).length by omega) (by rw [last_at]), useN_pre h _ (Nat.le_refl _), last_at]
  have hmin : n - min n n = 0 := by omega
  simp only [hmin]
  congr 1
  rw [List.set_append_right _ _ (Nat.le_refl _)]
  simp
theorem pap_last {pp : List PPaper} {n : Int} (h : papOk pp = true) (h0 : 0 ≤ n) (h1 : n ≤ 100000) : papOk (pp ++ [⟨7, 100, n⟩]) = true := by
  unfold papOk at *
  rw [List.all_append, h]
  simp only [List.all_cons, List.all_nil, Bool.and_true, Bool.true_and]
  unfold paperOk
  simp only [Bool.and_eq_true, inB_iff']
  omega
-- one strip for itself
theorem exch_same {d f : Int} {ss : List ByteArray} (hc : cardOk d f ss = true) (h0 : 0 < ss.length) : exchRes d f ss 0 ss[0] ss[0] = (ss, true) := by
  have hset : ss.set (0 : Int).toNat ss[0] = ss := by
    apply List.ext_getElem (by simp)
    intro i h1 h2
    rw [List.getElem_set]
    split
    · rename_i e; have : i = 0 := by simpa using e.symm
      subst this; rfl
    · rfl
  have hin : inB 0 0 ((ss.length : Int) - 1) = true := inB_iff'.2 ⟨by omega, by omega⟩
  have hget : ss.getD (0 : Int).toNat ByteArray.empty = ss[0] := by simp [List.getD, h0]
  unfold exchRes
  rw [hc, hin, hget, if_pos (by simp)]
  unfold putAt
  rw [hset, hc, hin]
  rfl
theorem step_same {on : Bool} {d f : Int} {ss : List ByteArray} (hc : cardOk d f ss = true) (h0 : 0 < ss.length) : stepRes on d f ss 3 0 0 0 0 ss[0] ss[0] = (ss, true) := by
  have hp : plainStep 3 0 0 0 0 ss[0] ss[0] = true := by rw [plain_3]; rfl
  unfold stepRes
  rw [hp, if_neg (by simp), if_neg (by omega), if_neg (by omega), exch_same hc h0]
  split <;> rfl
def oneStep (ss : List ByteArray) (h0 : 0 < ss.length) : PStep := ⟨3, 0, 0, 0, 0, ss[0], ss[0]⟩
theorem do_same {D : PDraft} (h : draftOk D = true) (hs : D.st.length ≤ 6) (h0 : 0 < D.ss2.length) : doRes D ⟨3, 0, 0, 0, 0, D.ss2[0], D.ss2[0]⟩ = (⟨D.d1, D.f1, D.ss1, D.d2, D.f2, D.ss2, D.st ++ [⟨3, 0, 0, 0, 0, D.ss2[0], D.ss2[0]⟩]⟩, true) := by
  have hst := step_same (on := true) (draft_card h) h0
  unfold doRes
  simp only [hst]
  rw [if_pos ⟨⟨h, by omega⟩, trivial⟩]
theorem undo_same {D : PDraft} (h : draftOk D = true) (hs : D.st.length ≤ 6) (h0 : 0 < D.ss2.length) : undoRes ⟨D.d1, D.f1, D.ss1, D.d2, D.f2, D.ss2, D.st ++ [⟨3, 0, 0, 0, 0, D.ss2[0], D.ss2[0]⟩]⟩ = (D, true) := by
  have hd := do_same h hs h0
  have h2 : draftOk ⟨D.d1, D.f1, D.ss1, D.d2, D.f2, D.ss2, D.st ++ [⟨3, 0, 0, 0, 0, D.ss2[0], D.ss2[0]⟩]⟩ = true := by
    have := draft_do ⟨3, 0, 0, 0, 0, D.ss2[0], D.ss2[0]⟩ h
    rw [hd] at this
    exact this
  rw [undoRes_yes h2, step_same (draft_card h) h0]
theorem shape_same {W : PWork} (h : workOk W = true) (hs : W.D.st.length ≤ 6) (h0 : 0 < W.D.ss2.length) (hm : 1 ≤ W.m) : shapeRes W ⟨3, 0, 0, 0, 0, W.D.ss2[0], W.D.ss2[0]⟩ = (⟨⟨W.D.d1, W.D.f1, W.D.ss1, W.D.d2, W.D.f2, W.D.ss2, W.D.st ++ [⟨3, 0, 0, 0, 0, W.D.ss2[0], W.D.ss2[0]⟩]⟩, W.P, W.pp, W.m - 1⟩, true) := by
  unfold shapeRes
  rw [do_same (workOk_iff.1 h).1 hs h0, if_pos ⟨h, hm, rfl⟩]
theorem shape_none {W : PWork} {s : PStep} (hm : W.m < 1) : shapeRes W s = (W, false) := by
  unfold shapeRes
  rw [if_neg (fun q => by omega)]
theorem shaped_ok {W : PWork} (h : workOk W = true) (hs : W.D.st.length ≤ 6) (h0 : 0 < W.D.ss2.length) (hm : 1 ≤ W.m) : workOk ⟨⟨W.D.d1, W.D.f1, W.D.ss1, W.D.d2, W.D.f2, W.D.ss2, W.D.st ++ [⟨3, 0, 0, 0, 0, W.D.ss2[0], W.D.ss2[0]⟩]⟩, W.P, W.pp, W.m - 1⟩ = true := by
  have hd := draft_do ⟨3, 0, 0, 0, 0, W.D.ss2[0], W.D.ss2[0]⟩ (workOk_iff.1 h).1
  rw [do_same (workOk_iff.1 h).1 hs h0] at hd
  have := workOk_m h
  have h2 := workOk_iff.1 h
  exact workOk_iff.2 ⟨hd, h2.2.1, h2.2.2.1, h2.2.2.2.1, by show 0 ≤ W.m - 1; omega, by show W.m - 1 ≤ 1000000; omega⟩
theorem money_ok {W : PWork} {mo : Int} (h : workOk W = true) (h0 : 0 ≤ mo) (h1 : mo ≤ 1000000) : workOk ⟨W.D, W.P, W.pp, mo⟩ = true := by
  have h2 := workOk_iff.1 h
  exact workOk_iff.2 ⟨h2.1, h2.2.1, h2.2.2.1, h2.2.2.2.1, h0, h1⟩
theorem unshape_same {W : PWork} (h : workOk W = true) (hs : W.D.st.length ≤ 6) (h0 : 0 < W.D.ss2.length) (hm : 1 ≤ W.m) : unshapeRes ⟨⟨W.D.d1, W.D.f1, W.D.ss1, W.D.d2, W.D.f2, W.D.ss2, W.D.st ++ [⟨3, 0, 0, 0, 0, W.D.ss2[0], W.D.ss2[0]⟩]⟩, W.P, W.pp, W.m - 1⟩ = (⟨W.D, W.P, W.pp, W.m - 1⟩, true) := by
  unfold unshapeRes
  rw [undo_same (workOk_iff.1 h).1 hs h0, if_pos ⟨shaped_ok h hs h0 hm, rfl⟩]
theorem unshape_work {W : PWork} (h : workOk W = true) : workOk (unshapeRes W).1 = true := by
  unfold unshapeRes
  split
  · rename_i q; exact workOk_D h (undoRes_draft q.2)
  · exact h
-- paper is bought
theorem buy_can {W : PWork} {n : Int} (h : DrewW W 2 2) (h1 : 1 ≤ n) (h2 : n ≤ 20) (hm : 2 * n ≤ W.m) : buyRes W 7 n = (⟨W.D, W.P, W.pp ++ [⟨7, 100, n⟩], W.m - 2 * n⟩, true) ∧ workOk ⟨W.D, W.P, W.pp ++ [⟨7, 100, n⟩], W.m - 2 * n⟩ = true := by
  have hw := workOk_iff.1 h.ok
  have hpl := h.pl
  have hk : workOk ⟨W.D, W.P, W.pp ++ [⟨7, 100, n⟩], W.m - 2 * n⟩ = true :=
    workOk_pp h.ok (pap_last hw.2.2.2.1 (by omega) (by omega)) (by simp; omega) (by omega) (by omega)
  exact ⟨buy_y (inB_iff'.2 ⟨by omega, by omega⟩) h.ok hk, hk⟩
theorem buy_cannot {W : PWork} {n : Int} (hm : ¬ 2 * n ≤ W.m) : buyRes W 7 n = (W, false) := by
  refine buy_n3 ?_
  cases hk : workOk ⟨W.D, W.P, W.pp ++ [⟨7, 100, n⟩], W.m - 2 * n⟩
  · rfl
  · have := workOk_m hk
    simp only at this
    omega
theorem make_more {W : PWork} {nm : ByteArray} {k n : Int} (h : sheetsL W.pp k < n) : makeRes W nm k n = (W, false) := by
  refine make_n4 ?_
  rw [useRes_no (fun q => by omega)]
theorem drew_k {W : PWork} {np ni : Nat} (h : DrewW W np ni) : ∀ p ∈ W.pp, p.k ≠ 7 := fun p hp e => by have := h.pk p hp; omega
theorem drew_nm {W : PWork} {np ni : Nat} (h : DrewW W np ni) : ∀ x ∈ W.P, x.nm ≠ owl := fun x hx => owl_not (h.nm x hx)
end Go.Proofs.YteffbjddgdjkmaaGreat
namespace Go.Proofs.YteffbjddgdjkmaaGreat
set_option linter.unusedVariables false
set_option maxRecDepth 10000
structure Shop (W : PWork) (n : Int) (b : Bool) (pq pr : List PPaper) (mq mr : Int) (Q : List PItem) : Prop where
  buy : buyRes W 7 n = (⟨W.D, W.P, pq, mq⟩, b)
  keep : keepRes ⟨W.D, W.P, pq, mq⟩ owl = (⟨W.D, Q, pq, mq⟩, true)
  ok1 : workOk ⟨W.D, Q, pq, mq⟩ = true
  make : makeRes ⟨W.D, Q, pq, mq⟩ owl 7 n = (⟨W.D, Q, pr, mr⟩, b)
  more : makeRes ⟨W.D, Q, pq, mq⟩ owl 7 (n + 1) = (⟨W.D, Q, pq, mq⟩, false)
  ok2 : workOk ⟨W.D, Q, pr, mr⟩ = true
  forget : forgetRes ⟨W.D, Q, pr, mr⟩ owl = (⟨W.D, W.P, pr, mr⟩, true)
  none : makeRes ⟨W.D, W.P, pr, mr⟩ owl 7 1 = (⟨W.D, W.P, pr, mr⟩, false)
  can : b = decide (2 * n ≤ W.m)
  yes : b = true → mq = W.m - 2 * n ∧ sheetsL pq 7 = n ∧ mr = mq + 5 * n ∧ sheetsL pr 7 = 0
  z1 : OkWork W.D W.P pq 1048576
  z2 : OkWork W.D Q pq 1048576
  z3 : OkWork W.D Q pr 1048576
  z4 : OkWork W.D W.P pr 1048576
  bd : 0 ≤ mq ∧ mq ≤ 1000000 ∧ 0 ≤ mr ∧ mr ≤ 1000000
theorem owl_size : owl.size ≤ 16777216 := by decide
set_option maxHeartbeats 1600000 in
theorem shop_all {W : PWork} (h : DrewW W 2 2) {n : Int} (h1 : 1 ≤ n) (h2 : n ≤ 20) : ∃ b pq pr mq mr Q, Shop W n b pq pr mq mr Q := by
  have hnm := drew_nm h
  have hk := drew_k h
  have hil := h.il
  have hpl := h.pl
  have hmb := h.mb
  have hm0 := workOk_m h.ok
  have hj := posOf_le W.P owl
  by_cases hm : 2 * n ≤ W.m
  · obtain ⟨e1, w1⟩ := buy_can h h1 h2 hm
    obtain ⟨e2, hc⟩ := keep_owl w1 (by show W.P.length < 20; omega) hnm
    simp only at e2 hc
    have hpq : papOk (W.pp ++ [⟨7, 100, n⟩]) = true := (workOk_iff.1 w1).2.2.2.1
    have hpr : papOk (W.pp ++ [⟨7, 100, 0⟩]) = true := pap_last (workOk_iff.1 h.ok).2.2.2.1 (by omega) (by omega)
    have hs := sheets_last hk hpq
    have hu := use_last hk hpq (by omega) (show 0 ≤ n by omega)
    have w2 : workOk ⟨W.D, insP W.P ⟨owl, W.D.d2, W.D.f2, W.D.ss2⟩ (posOf W.P owl), W.pp ++ [⟨7, 100, n⟩], W.m - 2 * n⟩ = true := workOk_P w1 hc
    have hnd : (named (insP W.P ⟨owl, W.D.d2, W.D.f2, W.D.ss2⟩ (posOf W.P owl)) owl).2.2 = true := ins_named (x := ⟨owl, W.D.d2, W.D.f2, W.D.ss2⟩) hj hnm hc
    have e3 := make_y (W := ⟨W.D, insP W.P ⟨owl, W.D.d2, W.D.f2, W.D.ss2⟩ (posOf W.P owl), W.pp ++ [⟨7, 100, n⟩], W.m - 2 * n⟩) (nm := owl) (k := 7) (n := n) (inB_iff'.2 ⟨by omega, by omega⟩) w2 hnd (by rw [hu]) (by show ¬ 1000000 < W.m - 2 * n + 5 * n; omega)
    simp only [hu] at e3
    have w3 : workOk ⟨W.D, insP W.P ⟨owl, W.D.d2, W.D.f2, W.D.ss2⟩ (posOf W.P owl), W.pp ++ [⟨7, 100, 0⟩], W.m - 2 * n + 5 * n⟩ = true := workOk_pp w2 hpr (by simp; omega) (by omega) (by omega)
    have hdr : dropped (insP W.P ⟨owl, W.D.d2, W.D.f2, W.D.ss2⟩ (posOf W.P owl)) owl = (W.P, true) := ins_drop (x := ⟨owl, W.D.d2, W.D.f2, W.D.ss2⟩) hj hnm hc
    have e5 : forgetRes ⟨W.D, insP W.P ⟨owl, W.D.d2, W.D.f2, W.D.ss2⟩ (posOf W.P owl), W.pp ++ [⟨7, 100, 0⟩], W.m - 2 * n + 5 * n⟩ owl = (⟨W.D, W.P, W.pp ++ [⟨7, 100, 0⟩], W.m - 2 * n + 5 * n⟩, true) := by
      unfold forgetRes
      simp only [hdr]
      rw [if_pos ⟨w3, trivial⟩]
    have z1 := buyRes_ok W 7 n h.z
    rw [e1] at z1
    have z2 := keepRes_ok ⟨W.D, W.P, W.pp ++ [⟨7, 100, n⟩], W.m - 2 * n⟩ owl z1 owl_size
    rw [e2] at z2
    have z3 := makeRes_ok ⟨W.D, insP W.P ⟨owl, W.D.d2, W.D.f2, W.D.ss2⟩ (posOf W.P owl), W.pp ++ [⟨7, 100, n⟩], W.m - 2 * n⟩ owl 7 n z2
    rw [e3] at z3
    exact ⟨true, W.pp ++ [⟨7, 100, n⟩], W.pp ++ [⟨7, 100, 0⟩], W.m - 2 * n, W.m - 2 * n + 5 * n, insP W.P ⟨owl, W.D.d2, W.D.f2, W.D.ss2⟩ (posOf W.P owl), { buy := e1, keep := e2, ok1 := w2, make := e3, more := make_more (by show sheetsL (W.pp ++ [⟨7, 100, n⟩]) 7 < n + 1; rw [hs]; omega), ok2 := w3, forget := e5, none := make_n2 (no_named hnm), can := (decide_eq_true hm).symm, yes := fun _ => ⟨rfl, hs, rfl, sheets_last hk hpr⟩, z1 := z1, z2 := z2, z3 := z3, z4 := ⟨h.z.d, h.z.i, z3.p⟩, bd := by omega }⟩
  · have e1 := buy_cannot hm
    obtain ⟨e2, hc⟩ := keep_owl h.ok (by omega) hnm
    have hs := sheets_none hk
    have w2 : workOk ⟨W.D, insP W.P ⟨owl, W.D.d2, W.D.f2, W.D.ss2⟩ (posOf W.P owl), W.pp, W.m⟩ = true := workOk_P h.ok hc
    have hdr : dropped (insP W.P ⟨owl, W.D.d2, W.D.f2, W.D.ss2⟩ (posOf W.P owl)) owl = (W.P, true) := ins_drop (x := ⟨owl, W.D.d2, W.D.f2, W.D.ss2⟩) hj hnm hc
    have e5 : forgetRes ⟨W.D, insP W.P ⟨owl, W.D.d2, W.D.f2, W.D.ss2⟩ (posOf W.P owl), W.pp, W.m⟩ owl = (⟨W.D, W.P, W.pp, W.m⟩, true) := by
      unfold forgetRes
      simp only [hdr]
      rw [if_pos ⟨w2, trivial⟩]
    have z2 := keepRes_ok W owl h.z owl_size
    rw [e2] at z2
    exact ⟨false, W.pp, W.pp, W.m, W.m, insP W.P ⟨owl, W.D.d2, W.D.f2, W.D.ss2⟩ (posOf W.P owl), { buy := e1, keep := e2, ok1 := w2, make := make_more (by show sheetsL W.pp 7 < n; rw [hs]; omega), more := make_more (by show sheetsL W.pp 7 < n + 1; rw [hs]; omega), ok2 := w2, forget := e5, none := make_n2 (no_named hnm), can := (decide_eq_false hm).symm, yes := (fun q => by cases q), z1 := h.z, z2 := z2, z3 := z2, z4 := h.z, bd := by omega }⟩
structure Shaped (W : PWork) (s : PStep) (sh bu : Bool) (sv : List PStep) (mS : Int) (U : PWork) : Prop where
  shape : shapeRes W s = (⟨⟨W.D.d1, W.D.f1, W.D.ss1, W.D.d2, W.D.f2, W.D.ss2, sv⟩, W.P, W.pp, mS⟩, sh)
  back : unshapeRes ⟨⟨W.D.d1, W.D.f1, W.D.ss1, W.D.d2, W.D.f2, W.D.ss2, sv⟩, W.P, W.pp, mS⟩ = (U, bu)
  ok : workOk U = true
  z1 : OkWork ⟨W.D.d1, W.D.f1, W.D.ss1, W.D.d2, W.D.f2, W.D.ss2, sv⟩ W.P W.pp 1048576
  z2 : OkWork U.D U.P U.pp 1048576
  can : sh = decide (1 ≤ W.m)
  yes : sh = true → mS = W.m - 1 ∧ bu = true ∧ U.D = W.D
theorem shape_all {W : PWork} (h : DrewW W 2 2) (h0 : 0 < W.D.ss2.length) : ∃ sh bu sv mS U, Shaped W ⟨3, 0, 0, 0, 0, W.D.ss2[0], W.D.ss2[0]⟩ sh bu sv mS U := by
  have hsz : W.D.ss2[0].size ≤ 16777216 := h.z.d.z2 _ (List.getElem_mem h0)
  by_cases hm : 1 ≤ W.m
  · have e1 := shape_same h.ok h.st h0 hm
    have e2 := unshape_same h.ok h.st h0 hm
    have z1 := shapeRes_ok W ⟨3, 0, 0, 0, 0, W.D.ss2[0], W.D.ss2[0]⟩ h.z ⟨hsz, hsz⟩
    rw [e1] at z1
    have hm0 := workOk_m h.ok
    exact ⟨true, true, _, _, _, e1, e2, money_ok h.ok (by omega) (by omega), z1, h.z, (decide_eq_true hm).symm, fun _ => ⟨rfl, rfl, rfl⟩⟩
  · have e1 := shape_none (s := ⟨3, 0, 0, 0, 0, W.D.ss2[0], W.D.ss2[0]⟩) (show W.m < 1 by omega)
    exact ⟨false, (unshapeRes W).2, W.D.st, W.m, (unshapeRes W).1, e1, rfl, unshape_work h.ok, h.z, unshapeRes_ok W h.z, (decide_eq_false hm).symm, fun q => by cases q⟩
end Go.Proofs.YteffbjddgdjkmaaGreat
