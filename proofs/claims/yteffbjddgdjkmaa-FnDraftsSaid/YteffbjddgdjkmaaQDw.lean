/- Contracts of the program's and the reference's functions (ScenD, Draw9). -/
import Derived.Deep.DeepCutAuto
import Derived.Deep.RegionHeld3
import Derived.Deep.RegionWith
import Derived.Test.YteffbjddgdjkmaaRows
import Derived.Test.YteffbjddgdjkmaaQDf
import Derived.Test.YteffbjddgdjkmaaQDu
import Derived.Test.YteffbjddgdjkmaaQDv
import Derived.Test.YteffbjddgdjkmaaQDg
namespace Go.Proofs.Yteffbjddgdjkmaa
open Go.ChangeShapes Go.WideShapes Go.ChangeAt Go.RowKit
set_option linter.unusedVariables false
set_option linter.unusedSimpArgs false
set_option maxRecDepth 10000
theorem bytes_ext {a b : ByteArray} (h : a.data.toList = b.data.toList) : a = b := by
  obtain ⟨⟨x⟩⟩ := a
  obtain ⟨⟨y⟩⟩ := b
  simp at h
  subst h
  rfl
theorem swap_swap {c : UInt8} {s : ByteArray} {k : Int} (h : cornerB c s k = true) : swapB (swapB s k) k = s := by
  obtain ⟨p, q, a, b, h1, hk, h2, _⟩ := swap_data h
  apply bytes_ext
  show swapL (swapB s k).data.toList k.toNat = _
  rw [h2, h1, hk, Int.toNat_natCast]
  exact swapL_split p q b a _ rfl
theorem flips_flips {c : UInt8} {at_ : Int} {ss : List ByteArray} {F m : Nat} (ha : allC c at_ ss F m = true) : flips at_ (flips at_ ss F m) F m = ss := by
  unfold allC at ha
  rw [List.all_eq_true] at ha
  apply List.ext_getElem (by simp [flips])
  intro i h1 h2
  simp only [flips, List.getElem_mapIdx]
  split
  · rename_i hr
    rw [swap_swap (c := c)]
    refine ha _ ?_
    rw [List.mem_take_iff_getElem]
    exact ⟨i - F, by rw [List.length_drop]; omega, by simp [show F + (i - F) = i by omega]⟩
  · rfl
theorem boxRes_back1 {c : UInt8} (hc : c = 100 ∨ c = 102) {d f : Int} {ss sn : List ByteArray} {F L T : Int} (h : boxRes c d f ss F L T = (sn, true)) : (boxRes (otherC c) d f sn F L T).1 = ss := by
  have h2 := boxRes_back hc h
  unfold boxRes at h
  split at h
  · rename_i h1
    injection h with h3 _
    subst h3
    unfold boxRes at h2 ⊢
    split at h2
    · rename_i h4
      rw [if_pos h4]
      exact flips_flips h1.2
    · cases h2
  · injection h with _ h2; cases h2
theorem exch_back1 {d f : Int} {ss sn : List ByteArray} {k : Int} {b a : ByteArray} (h : exchRes d f ss k b a = (sn, true)) : (exchRes d f sn k a b).1 = ss := by
  unfold exchRes at h
  split at h
  · rename_i h1
    simp only [Bool.and_eq_true, decide_eq_true_eq] at h1
    unfold putAt at h
    split at h
    · rename_i h2
      simp only [Bool.and_eq_true] at h2
      injection h with h3 _
      subst h3
      have hk := inB_iff'.1 h1.1.2
      have hkn : k.toNat < ss.length := by omega
      have hb : ss[k.toNat] = b := by
        have := h1.2
        simpa [List.getD, List.getElem?_eq_getElem hkn] using this
      have hback : (ss.set k.toNat a).set k.toNat b = ss := by
        rw [List.set_set, ← hb]; exact List.set_getElem_self hkn
      unfold exchRes putAt
      rw [hback, h2.2, h1.1.1, List.length_set, h1.1.2]
      simp [List.getD, hkn]
    · injection h with _ h2; cases h2
  · injection h with _ h2; cases h2
theorem step_back1 {d f : Int} {ss sn : List ByteArray} {K F L T I : Int} {b a : ByteArray} (h : stepRes true d f ss K F L T I b a = (sn, true)) : (stepRes false d f sn K F L T I b a).1 = ss := by
  unfold stepRes at *
  split at h
  · injection h with _ h2; cases h2
  · rename_i hp
    rw [if_neg hp]
    split at h
    · rename_i hk
      rw [if_pos hk]
      have := boxRes_back1 (c := 100) (.inl rfl) (by simpa using h)
      simpa [otherC] using this
    · rename_i hk
      rw [if_neg hk]
      split at h
      · rename_i hk2
        rw [if_pos hk2]
        have := boxRes_back1 (c := 102) (.inr rfl) (by simpa using h)
        simpa [otherC] using this
      · rename_i hk2
        rw [if_neg hk2]
        exact exch_back1 (by simpa using h)
theorem runSteps_append {d f : Int} (l m : List PStep) : ∀ (ss : List ByteArray), runSteps d f (l ++ m) ss = (runSteps d f l ss).bind (runSteps d f m) := by
  induction l with
  | nil => intro ss; rfl
  | cons x l ih =>
    intro ss
    simp only [List.cons_append, runSteps]
    split
    · exact ih _
    · rfl
theorem runSteps_one {d f : Int} (s : PStep) (ss : List ByteArray) : runSteps d f [s] ss = if (stepRes true d f ss s.K s.F s.L s.T s.I s.b s.a).2 = true then some (stepRes true d f ss s.K s.F s.L s.T s.I s.b s.a).1 else none := rfl
theorem sameCard_iff {d f d2 f2 : Int} {ss ts : List ByteArray} : sameCard d f d2 f2 ss ts = true ↔ d = d2 ∧ f = f2 ∧ ss = ts := by
  unfold sameCard eqSS
  simp
theorem draftOk_iff {D : PDraft} : draftOk D = true ↔ (cardOk D.d1 D.f1 D.ss1 = true ∧ D.st.length ≤ 40) ∧ D.d1 = D.d2 ∧ D.f1 = D.f2 ∧ runSteps D.d1 D.f1 D.st D.ss1 = some D.ss2 := by
  unfold draftOk
  simp only [Bool.and_eq_true, decide_eq_true_eq]
  constructor
  · rintro ⟨h1, h2⟩
    refine ⟨h1, ?_⟩
    split at h2
    · rename_i sn hr
      obtain ⟨a, b, c⟩ := sameCard_iff.1 h2
      exact ⟨a, b, by rw [hr, c]⟩
    · cases h2
  · rintro ⟨h1, h2, h3, h4⟩
    refine ⟨h1, ?_⟩
    rw [h4]
    exact sameCard_iff.2 ⟨h2, h3, rfl⟩
theorem doRes_draft {D : PDraft} {s : PStep} (h : (doRes D s).2 = true) : draftOk (doRes D s).1 = true := by
  unfold doRes at h ⊢
  split at h
  · rename_i hc
    rw [if_pos hc]
    obtain ⟨⟨h1, h2⟩, h3, h4, h5⟩ := draftOk_iff.1 hc.1.1
    rw [draftOk_iff]
    refine ⟨⟨h1, ?_⟩, h3, h4, ?_⟩
    · have := hc.1.2
      simp
      omega
    · show runSteps D.d1 D.f1 (D.st ++ [s]) D.ss1 = _
      rw [runSteps_append, h5]
      show runSteps D.d1 D.f1 [s] D.ss2 = _
      rw [runSteps_one, h3, h4, if_pos hc.2]
  · cases h
theorem drew_cardOk {d f : Nat} {ss : List ByteArray} (hb : 1 ≤ d ∧ d ≤ 4 ∧ 1 ≤ f ∧ f ≤ 4 ∧ 1 ≤ ss.length ∧ ss.length ≤ 6) (h : ∀ x ∈ ss, Drew d f x) : cardOk d f ss = true := by
  have hall : ss.all (stripOf d f) = true := List.all_eq_true.2 fun x hx => by
    have hD := h x hx
    have hst := drew_strip hD hb.1 (by omega) hb.2.2.1 (by omega)
    obtain ⟨k1, k2, k3⟩ := hD
    unfold stripOf downOf forwardOf
    rw [hst, k1, k2]
    simp
  unfold cardOk
  rw [hall]
  simp [isStepsB, inB]
  omega
theorem draft_first {d f : Int} {ss : List ByteArray} (h : cardOk d f ss = true) : draftOk ⟨d, f, ss, d, f, ss, []⟩ = true := draftOk_iff.2 ⟨⟨h, Nat.zero_le _⟩, rfl, rfl, rfl⟩
theorem doRes_no {D : PDraft} {s : PStep} (q : (doRes D s).2 ≠ true) : (doRes D s).1 = D := by
  unfold doRes at q ⊢
  split
  · rename_i hc; rw [if_pos hc] at q; exact absurd rfl q
  · rfl
theorem draft_do {D : PDraft} (s : PStep) (h : draftOk D = true) : draftOk (doRes D s).1 = true := by
  by_cases q : (doRes D s).2 = true
  · exact doRes_draft q
  · rw [doRes_no q]; exact h
theorem step_card {on : Bool} {d f : Int} {ss : List ByteArray} {K F L T I : Int} {b a : ByteArray} (h : cardOk d f ss = true) : cardOk d f (stepRes on d f ss K F L T I b a).1 = true := by
  have hbox : ∀ c : UInt8, cardOk d f (boxRes c d f ss F L T).1 = true := by
    intro c
    unfold boxRes
    split
    · rename_i q; exact cardOk_flips h q.2
    · exact h
  have hput : ∀ (s : ByteArray), cardOk d f (putAt d f ss I s).1 = true := by
    intro s
    unfold putAt
    split
    · rename_i q
      rw [Bool.and_eq_true] at q
      exact q.2
    · exact h
  have hex : ∀ (x y : ByteArray), cardOk d f (exchRes d f ss I x y).1 = true := by
    intro x y
    unfold exchRes
    split
    · exact hput _
    · exact h
  unfold stepRes
  split
  · exact h
  · split
    · exact hbox _
    · split
      · exact hbox _
      · split
        · exact hex _ _
        · exact hex _ _
theorem runSteps_card {d f : Int} : ∀ (l : List PStep) (ss sn : List ByteArray), cardOk d f ss = true → runSteps d f l ss = some sn → cardOk d f sn = true := by
  intro l
  induction l with
  | nil => intro ss sn h e; simp only [runSteps] at e; injection e with e; rw [← e]; exact h
  | cons s l ih =>
    intro ss sn h e
    simp only [runSteps] at e
    split at e
    · exact ih _ _ (step_card h) e
    · cases e
theorem draft_card {D : PDraft} (h : draftOk D = true) : cardOk D.d2 D.f2 D.ss2 = true := by
  obtain ⟨⟨h1, _⟩, h2, h3, h4⟩ := draftOk_iff.1 h
  rw [← h2, ← h3]
  exact runSteps_card _ _ _ h1 h4
theorem sc_size {s : ByteArray} (h : isStrip s.data.toList = true) : s.size ≤ 16 := by
  unfold isStrip inB at h
  simp at h
  have : s.data.toList.length = s.size := by simp
  simp at this
  omega
theorem card_bounds {d f : Int} {ss : List ByteArray} (h : cardOk d f ss = true) : (1 ≤ d ∧ d ≤ 8 ∧ 1 ≤ f ∧ f ≤ 8) ∧ (1 ≤ ss.length ∧ ss.length ≤ 10) ∧ ∀ s ∈ ss, s.size ≤ 16 := by
  unfold cardOk at h
  simp only [Bool.and_eq_true, List.all_eq_true] at h
  obtain ⟨⟨h1, h2⟩, h3, h4⟩ := h
  have e1 := inB_iff'.1 h1
  have e2 := inB_iff'.1 h2
  have e3 := inB_iff'.1 h3
  refine ⟨⟨by omega, by omega, by omega, by omega⟩, ⟨by omega, by omega⟩, fun s hs => ?_⟩
  have hs2 := h4 s hs
  unfold stripOf downOf at hs2
  by_cases hi : isStrip s.data.toList = true
  · exact sc_size hi
  · rw [if_neg hi] at hs2
    simp at hs2
    omega
theorem doRes_st {D : PDraft} (s : PStep) : (doRes D s).1.st.length ≤ D.st.length + 1 := by
  unfold doRes
  split
  · simp
  · exact Nat.le_succ _
end Go.Proofs.Yteffbjddgdjkmaa
namespace Go.Proofs.Yteffbjddgdjkmaa
open Go.ChangeShapes Go.WideShapes Go.ChangeAt Go.RowKit
set_option linter.unusedVariables false
set_option linter.unusedSimpArgs false
set_option maxRecDepth 10000
def DrawnDraft (g B : Nat) (A : Option Addr) (c : Nat) (bs : List Int) (w : World) (e : Ending) (w' : World) : Prop :=
  ∃ (d1 f1 : Int) (ss1 : List ByteArray) (d2 f2 : Int) (ss2 : List ByteArray) (st : List PStep) (A1 : Option Addr) (c1 : Nat) (A2 : Option Addr) (c2 : Nat) (A3 : Option Addr) (c3 : Nat),
    draftOk ⟨d1, f1, ss1, d2, f2, ss2, st⟩ = true ∧ OkDraft ⟨d1, f1, ss1, d2, f2, ss2, st⟩ 1048576 ∧ st.length ≤ 6 ∧
    e = .returned (.agg #[.int .i64 d1, .int .i64 f1, .slice A1 ss1.length c1, .int .i64 d2, .int .i64 f2, .slice A2 ss2.length c2, .slice A3 st.length c3]) ∧ OwnD w' w.heap.size w'.heap.size A1 c1 A2 c2 A3 c3 ⟨d1, f1, ss1, d2, f2, ss2, st⟩ ∧ Cur w' g B A c bs ∧ w.grownBy w' (some g)
theorem bf7 {w : World} {g : Nat} {t : TypeId} {a0 a1 a2 a3 a4 a5 a6 : Value} (h : w.heap[g]? = some (.cells #[a0, a1, a2, a3, a4, a5, a6] t (0, 0))) :
    (w.frozen? ⟨g, 0, none⟩ = false ∧ w.frozen? ⟨g, 1, none⟩ = false ∧ w.frozen? ⟨g, 2, none⟩ = false ∧ w.frozen? ⟨g, 3, none⟩ = false) ∧ (w.frozen? ⟨g, 4, none⟩ = false ∧ w.frozen? ⟨g, 5, none⟩ = false ∧ w.frozen? ⟨g, 6, none⟩ = false) :=
  ⟨⟨(blk_cells h 0).2, (blk_cells h 1).2, (blk_cells h 2).2, (blk_cells h 3).2⟩, (blk_cells h 4).2, (blk_cells h 5).2, (blk_cells h 6).2⟩
theorem blk_o7 {w : World} {g g2 : Nat} {o : Obj} (h : w.heap[g]? = some o) (hne : g ≠ g2) (a0 a1 a2 a3 a4 a5 a6 : Value) : (((((((w.setCell ⟨g2, 0, none⟩ a0).setCell ⟨g2, 1, none⟩ a1).setCell ⟨g2, 2, none⟩ a2).setCell ⟨g2, 3, none⟩ a3).setCell ⟨g2, 4, none⟩ a4).setCell ⟨g2, 5, none⟩ a5).setCell ⟨g2, 6, none⟩ a6).heap[g]? = some o :=
  blk_other (blk_other (blk_other (blk_other (blk_other (blk_other (blk_other h hne _) hne _) hne _) hne _) hne _) hne _) hne _
theorem own_first {w : World} {lo m hi c1 c2 : Nat} {d f : Int} {ss : List ByteArray} {A1 A2 : Option Addr} (h1 : OwnS w lo m A1 c1 ss) (h2 : OwnS w m hi A2 c2 ss) (h3 : lo ≤ m) (h4 : m ≤ hi) : OwnD w lo hi A1 c1 A2 c2 none 0 ⟨d, f, ss, d, f, ss, []⟩ :=
  ⟨h1.wide (Nat.le_refl _) h4, h2.wide h3 (Nat.le_refl _), ⟨World.ownsRow_nil w _ _ _, fun k hk => by simp [Value.ownBlock] at hk⟩, fun k hk hk2 => by
    have := h1.top k hk
    have := (h2.row.lt k hk2).1
    omega⟩
theorem leafD {wf w0 : World} {b g : Nat} {d f : Int} {ss : List ByteArray} {A A0 : Option Addr} {c c0 : Nat} {z0 z1 z2 z3 z4 z5 z6 : Value} (hk : wf.heap[g]? = some (.cells #[z0, z1, z2, z3, z4, z5, z6] 83 (0, 0))) (ho : OwnS wf b wf.heap.size A c ss) (hb : Below b w0 wf) (hg : b ≤ g) :
    (((((((wf.setCell ⟨g, 0, none⟩ (.int .i64 d)).setCell ⟨g, 1, none⟩ (.int .i64 f)).setCell ⟨g, 2, none⟩ (.slice A0 ss.length c0)).setCell ⟨g, 3, none⟩ (.int .i64 d)).setCell ⟨g, 4, none⟩ (.int .i64 f)).setCell ⟨g, 5, none⟩ (.slice A ss.length c)).setCell ⟨g, 6, none⟩ (.slice none 0 0)).heap[g]? = some (.cells #[.int .i64 d, .int .i64 f, .slice A0 ss.length c0, .int .i64 d, .int .i64 f, .slice A ss.length c, .slice none 0 0] 83 (0, 0)) ∧ OwnS (((((((wf.setCell ⟨g, 0, none⟩ (.int .i64 d)).setCell ⟨g, 1, none⟩ (.int .i64 f)).setCell ⟨g, 2, none⟩ (.slice A0 ss.length c0)).setCell ⟨g, 3, none⟩ (.int .i64 d)).setCell ⟨g, 4, none⟩ (.int .i64 f)).setCell ⟨g, 5, none⟩ (.slice A ss.length c)).setCell ⟨g, 6, none⟩ (.slice none 0 0)) b (((((((wf.setCell ⟨g, 0, none⟩ (.int .i64 d)).setCell ⟨g, 1, none⟩ (.int .i64 f)).setCell ⟨g, 2, none⟩ (.slice A0 ss.length c0)).setCell ⟨g, 3, none⟩ (.int .i64 d)).setCell ⟨g, 4, none⟩ (.int .i64 f)).setCell ⟨g, 5, none⟩ (.slice A ss.length c)).setCell ⟨g, 6, none⟩ (.slice none 0 0)).heap.size A c ss ∧ b ≤ g ∧ Below b w0 (((((((wf.setCell ⟨g, 0, none⟩ (.int .i64 d)).setCell ⟨g, 1, none⟩ (.int .i64 f)).setCell ⟨g, 2, none⟩ (.slice A0 ss.length c0)).setCell ⟨g, 3, none⟩ (.int .i64 d)).setCell ⟨g, 4, none⟩ (.int .i64 f)).setCell ⟨g, 5, none⟩ (.slice A ss.length c)).setCell ⟨g, 6, none⟩ (.slice none 0 0)) := by
  refine ⟨blk7_set hk _ _ _ _ _ _ _, ?_, hg, ?_⟩
  · exact (ho.box hk (by decide) (by repeat (first | (with_reducible exact World.grownBy.refl _ _) | (with_reducible refine only_setCell ?_ (.inl rfl) _)))).wide (Nat.le_refl _) (by simp [World.setCell])
  · exact bel
theorem leafDN {wf w0 : World} {b g : Nat} {d f : Int} {ss : List ByteArray} {A A0 : Option Addr} {c c0 : Nat} (hb : Below b w0 wf) (ho : OwnS wf b wf.heap.size A c ss) (hg : g = wf.heap.size) (hg2 : b ≤ g) :
    (wf.alloc (.cells #[.int .i64 d, .int .i64 f, .slice A0 ss.length c0, .int .i64 d, .int .i64 f, .slice A ss.length c, .slice none 0 0] 83)).heap[g]? = some (.cells #[.int .i64 d, .int .i64 f, .slice A0 ss.length c0, .int .i64 d, .int .i64 f, .slice A ss.length c, .slice none 0 0] 83 (0, 0)) ∧ OwnS (wf.alloc (.cells #[.int .i64 d, .int .i64 f, .slice A0 ss.length c0, .int .i64 d, .int .i64 f, .slice A ss.length c, .slice none 0 0] 83)) b (wf.alloc (.cells #[.int .i64 d, .int .i64 f, .slice A0 ss.length c0, .int .i64 d, .int .i64 f, .slice A ss.length c, .slice none 0 0] 83)).heap.size A c ss ∧ b ≤ g ∧ Below b w0 (wf.alloc (.cells #[.int .i64 d, .int .i64 f, .slice A0 ss.length c0, .int .i64 d, .int .i64 f, .slice A ss.length c, .slice none 0 0] 83)) := by
  subst hg
  exact ⟨blk_new_at _ _ rfl, (ho.alloc _).wide (Nat.le_refl _) (by simp), hg2, bel⟩
set_option maxHeartbeats 6400000 in
theorem s_l37Draft (g B : Nat) (A : Option Addr) (c : Nat) (bs : List Int) (w : World) (hC : Cur w g B A c bs) :
    Calls Try.prog 126 #[.pointer (some ⟨g, 0, none⟩)] w (DrawnDraft g B A c bs w) := by
  have hgw := hC.lt
  have hlB := hC.lo
  have C_ := hC
  have G_ := World.grownBy.refl w (some g)
  clear hC
  go_enter Try.func126, Try.ntmps126
  go_wp2_with fail
  obtain ⟨w1, e_⟩ : ∃ x, x = (w.alloc (.cells #[.int .i64 0, .int .i64 0, .slice none 0 0, .int .i64 0, .int .i64 0, .slice none 0 0, .slice none 0 0] 83)) := ⟨_, rfl⟩
  have z_ : Below w.heap.size w w1 := by rw [e_]; exact bel
  have k_r : w1.heap[w.heap.size]? = some (.cells #[.int .i64 0, .int .i64 0, .slice none 0 0, .int .i64 0, .int .i64 0, .slice none 0 0, .slice none 0 0] 83 (0, 0)) := by rw [e_]; exact (blk_new_at _ _ (by simp))
  replace C_ : Cur w1 g B A c bs := by rw [e_]; exact (C_.alloc _)
  replace G_ : w.grownBy w1 (some g) := grown_then G_ z_
  have s_w1 : w.heap.size ≤ w1.heap.size := by rw [e_]; simp [World.setCell]; try omega
  obtain ⟨br, eb_⟩ : ∃ x, x = w.heap.size := ⟨_, rfl⟩
  rw [← eb_] at k_r
  have l_r : w.heap.size ≤ br := by omega
  have eb_r := eb_; clear eb_
  rw [← e_]
  clear e_ z_ 
  try rw [← eb_r]
  clear eb_r
  refine (s_l05Card g B A c bs w1 C_).mono ?_
  rintro e w2 ⟨d, f, ss, A0, c0, hbd, hss, rfl, o_x, C2_, g_⟩
  replace k_r := C_.blk_keep k_r (by omega) g_
  replace G_ := only_trans G_ g_
  have s_w2 := g_.size
  clear C_ g_
  have C_ := C2_; clear C2_
  have hck := drew_cardOk hbd hss
  have hnn : ss.length ≤ 6 := hbd.2.2.2.2.2
  have hsz : ∀ s ∈ ss, s.size ≤ 16777216 := fun s hs => by have := (hss s hs).2.2; omega
  have HCK := Lib.hid hck
  have HSZ := hide hsz
  clear hck hsz hss hbd
  generalize (d : Int) = d at *
  generalize (f : Int) = f at *
  go_wp2
  have q_r := blk_lt k_r
  obtain ⟨w3, e_⟩ : ∃ x, x = (w2.alloc (.cells #[.int .i64 d, .int .i64 f, .slice A0 ss.length c0] 26)) := ⟨_, rfl⟩
  have hX_ : Boxy w2 w3 := by rw [e_]; exact boxy
  have z_ : Below w.heap.size w2 w3 := by rw [e_]; exact bel
  replace k_r := hkw e_ (blk_alloc k_r _)
  have k_x : w3.heap[w2.heap.size]? = some (.cells #[.int .i64 d, .int .i64 f, .slice A0 ss.length c0] 26 (0, 0)) := by rw [e_]; exact (blk_new_at _ _ (by simp))
  replace o_x := o_x.boxy hX_
  replace C_ : Cur w3 g B A c bs := by rw [e_]; exact (C_.alloc _)
  replace G_ : w.grownBy w3 (some g) := grown_then G_ z_
  have s_w3 : w2.heap.size ≤ w3.heap.size := by rw [e_]; simp [World.setCell]; try omega
  obtain ⟨bx, eb_⟩ : ∃ x, x = w2.heap.size := ⟨_, rfl⟩
  rw [← eb_] at k_x
  have l_x : w.heap.size ≤ bx := by omega
  have d_rx : br < bx := by omega
  have eb_x := eb_; clear eb_
  rw [← e_]
  clear e_ hX_ z_ q_r
  try rw [← eb_x]
  clear eb_x
  obtain ⟨x0x, x1x, x2x, xlx⟩ := blk3 k_x
  have hlr := blk_lt k_r
  have SX : Strs w3 w3.heap.size A0 ss.length ss := o_x.rd (by omega) HSZ.out
  go_cut [4] (fun s4 wx => ∃ (g9 : Nat) (A9 : Option Addr) (c9 : Nat), s4 = .pointer (some ⟨g9, 0, none⟩) ∧ wx.heap[g9]? = some (.cells #[.int .i64 d, .int .i64 f, .slice A0 ss.length c0, .int .i64 d, .int .i64 f, .slice A9 ss.length c9, .slice none 0 0] 83 (0, 0)) ∧ OwnS wx w3.heap.size wx.heap.size A9 c9 ss ∧ w3.heap.size ≤ g9 ∧ Below w3.heap.size w3 wx)
  case first =>
    go_region_held3 (fun W => (∀ b o, b < w3.heap.size → W.cell? ⟨b, o, none⟩ = (w3).cell? ⟨b, o, none⟩) ∧ (∀ b o, b < w3.heap.size → W.frozen? ⟨b, o, none⟩ = (w3).frozen? ⟨b, o, none⟩) ∧ Below (w3.heap.size) (w3) W) (exact keep_of bel) (first | (go_at_call 87; have hq := (‹_ ∧ _ ∧ Below _ _ _›).2.2; refine (s_l05Copy d f w3.heap.size A0 ss.length c0 ss _ ?_ ?_).mono ?_; exact SX.below hq; (first | exact hq.size | omega); rintro e wq ⟨A3, c3, rfl, ho3, hb3⟩; have hqs3 := hq.size; have hbs3 := hb3.size; (try simp at hqs3); (try simp at hbs3); (have hos : OwnS wq w3.heap.size wq.heap.size A3 c3 ss := (OwnS.of ho3 (Nat.le_refl _)).wide (by first | exact hq.size | omega) (Nat.le_refl _)); obtain ⟨hcb3, hfb3⟩ := bcell hb3; (try (have hzl1 : w3.heap.size < wq.heap.size := (by omega)))))
    all_goals (go_wp2_with fail)
    all_goals (go_meet)
    all_goals (
      refine ⟨_, A3, c3, rfl, ?_⟩
      first
        | ((with_reducible refine leafDN ?_ ?_ ?_ ?_); (first | exact bel); (focus ((repeat (first | (with_reducible exact hos) | (with_reducible refine OwnS.drew ?_) | (with_reducible refine OwnS.alloc ?_ _))); (first | done | fail))); (first | rfl | (simp; first | done | fail)); (first | omega | (simp; first | done | omega)))
        | ((with_reducible apply leafD); (case hk => (focus ((repeat (first | (with_reducible exact blk_new_at _ _ (by first | rfl | (simp; first | done | fail))) | (with_reducible refine blk_next ?_ hb3) | (with_reducible refine blk_drew ?_) | (with_reducible refine blk_alloc ?_ _))); (first | done | fail)))); (case ho => (focus ((repeat (first | (with_reducible exact hos) | (with_reducible refine OwnS.drew ?_) | (with_reducible refine OwnS.alloc ?_ _))); (first | done | fail)))); (case hb => exact bel); (case hg => first | omega | (simp; first | done | omega))))
  obtain ⟨bD, A9, c9, rfl, k_D, o_9, l9_, hb9⟩ := hcut
  obtain ⟨w5, hwc⟩ : ∃ Q9 : World, Q9 = wc := ⟨_, rfl⟩
  subst hwc
  clear x0x x1x x2x xlx
  clear SX
  replace k_r := blk_below k_r hb9 (blk_lt k_r)
  replace C_ := C_.below hb9
  replace G_ := grown_then G_ (hb9.mono G_.size)
  have hs9 := hb9.size
  have hlx := blk_lt k_x
  have o_D : OwnD w5 w.heap.size w5.heap.size A0 c0 A9 c9 none 0 ⟨d, f, ss, d, f, ss, []⟩ := own_first ((o_x.below hb9).wide (by omega) (by omega)) o_9 (by omega) (by omega)
  clear k_x o_x o_9 hlx hb9
  have d_rD : br < bD := by omega
  clear hlr
  go_wp2_with fail
  refine (s_l01Below 7 g B A c bs w5 C_ (by omega) (by omega)).mono ?_
  rintro e w6 ⟨m0, rfl, hm0, hm1, C2_, g_⟩
  replace k_r := C_.blk_keep k_r (by omega) g_
  replace k_D := C_.blk_keep k_D (by omega) g_
  replace o_D := o_D.boxy (C_.boxy g_)
  replace G_ := only_trans G_ g_
  have s_w6 := g_.size
  clear C_ g_
  have C_ := C2_; clear C2_
  obtain ⟨m, rfl⟩ : ∃ m : Nat, m0 = m := ⟨m0.toNat, by omega⟩
  go_wp2
  go_loopw [5] (fun q wr => ∃ (j : Nat) (d1 f1 : Int) (ss1 : List ByteArray) (d2 f2 : Int) (ss2 : List ByteArray) (st : List PStep) (A1 : Option Addr) (c1 : Nat) (A2 : Option Addr) (c2 : Nat) (A3 : Option Addr) (c3 : Nat), j ≤ 6 ∧ q = .int .i64 (j : Int) ∧ Hid (draftOk ⟨d1, f1, ss1, d2, f2, ss2, st⟩ = true) ∧ Hid (OkDraft ⟨d1, f1, ss1, d2, f2, ss2, st⟩ 1048576) ∧ st.length + j ≤ 6 ∧ wr.heap[bD]? = some (.cells #[.int .i64 d1, .int .i64 f1, .slice A1 ss1.length c1, .int .i64 d2, .int .i64 f2, .slice A2 ss2.length c2, .slice A3 st.length c3] 83 (0, 0)) ∧ wr.heap[br]? = some (.cells #[.int .i64 0, .int .i64 0, .slice none 0 0, .int .i64 0, .int .i64 0, .slice none 0 0, .slice none 0 0] 83 (0, 0)) ∧ OwnD wr w.heap.size wr.heap.size A1 c1 A2 c2 A3 c3 ⟨d1, f1, ss1, d2, f2, ss2, st⟩ ∧ Cur wr g B A c bs ∧ w.grownBy wr (some g)) (fun q _ => (intOf q).toNat)
  case atStart => exact ⟨m, d, f, ss, d, f, ss, [], A0, c0, A9, c9, none, 0, by omega, rfl, draft_first HCK.out, ⟨by show ss.length ≤ _; omega, by show ss.length ≤ _; omega, Nat.zero_le _, HSZ.out, HSZ.out, fun s hs => by cases hs⟩, by simp; omega, k_D, k_r, ⟨o_D.o1.wide (Nat.le_refl _) (by omega), o_D.o2.wide (Nat.le_refl _) (by omega), o_D.o3.wide (Nat.le_refl _) (by omega), o_D.ne⟩, C_, G_⟩
  case round =>
    clear k_D k_r o_D C_ G_ HCK HSZ
    obtain ⟨j, d1, f1, ss1, d2, f2, ss2, st, A1, c1, A2, c2, A3, c3, hj, rfl, HD, HK, hst, k_D, k_r, o_D, C_, G_⟩ := hrel
    have hgws := G_.size
    have hgD : g < wr.heap.size := C_.lt
    by_cases h0 : 0 < j
    · obtain ⟨x0, x1, x2, x3, x4, x5, x6, xl⟩ := blk7 k_D
      have hcb := card_bounds (draft_card HD.out)
      simp only at hcb
      have hn10 := hcb.2.1.2
      have hz16 := hcb.2.2
      have HZ16 := hide hz16
      have HRD := hide (fun (W : World) (h : OwnD W w.heap.size W.heap.size A1 c1 A2 c2 A3 c3 ⟨d1, f1, ss1, d2, f2, ss2, st⟩) => h.rd (HK.out.more (by omega)))
      clear hcb hz16
      go_wp2
      have kst : ∀ W : World, Cur W g B A c bs → OwnS W w.heap.size wr.heap.size A2 c2 ss2 → Calls Try.prog 176 #[.pointer (some ⟨g, 0, none⟩), .agg #[.int .i64 d2, .int .i64 f2, .slice A2 ss2.length c2]] W fun e w' => ∃ s : PStep, (s.b.size ≤ 16777216 ∧ s.a.size ≤ 16777216) ∧ e = .returned (.agg #[.int .i64 s.K, .int .i64 s.F, .int .i64 s.L, .int .i64 s.T, .int .i64 s.I, .string s.b, .string s.a]) ∧ Cur w' g B A c bs ∧ W.grownBy w' (some g) := fun W h1 h2 => s_l37Step d2 f2 ss2 A2 c2 w.heap.size wr.heap.size g B A c bs W h1 h2 hn10 HZ16.out
      have kdo : ∀ (s : PStep) (W : World), OwnD W w.heap.size W.heap.size A1 c1 A2 c2 A3 c3 ⟨d1, f1, ss1, d2, f2, ss2, st⟩ → s.b.size ≤ 16777216 → s.a.size ≤ 16777216 → Calls Try.prog 175 #[.agg #[.int .i64 d1, .int .i64 f1, .slice A1 ss1.length c1, .int .i64 d2, .int .i64 f2, .slice A2 ss2.length c2, .slice A3 st.length c3], .agg #[.int .i64 s.K, .int .i64 s.F, .int .i64 s.L, .int .i64 s.T, .int .i64 s.I, .string s.b, .string s.a]] W fun e w' => ∃ (e1 g1 : Int) (ts1 : List ByteArray) (e2 g2 : Int) (ts2 : List ByteArray) (tt : List PStep) (B1 : Option Addr) (b1 : Nat) (B2 : Option Addr) (b2 : Nat) (B3 : Option Addr) (b3 : Nat) (ok : Bool), Hid (draftOk ⟨e1, g1, ts1, e2, g2, ts2, tt⟩ = true) ∧ Hid (OkDraft ⟨e1, g1, ts1, e2, g2, ts2, tt⟩ 1048576) ∧ tt.length ≤ st.length + 1 ∧ e = .returned (.tuple #[.agg #[.int .i64 e1, .int .i64 g1, .slice B1 ts1.length b1, .int .i64 e2, .int .i64 g2, .slice B2 ts2.length b2, .slice B3 tt.length b3], .bool ok]) ∧ OwnD w' W.heap.size w'.heap.size B1 b1 B2 b2 B3 b3 ⟨e1, g1, ts1, e2, g2, ts2, tt⟩ ∧ Below W.heap.size W w' := by
        intro s W h hs1 hs2
        refine (s_DoStep ⟨d1, f1, ss1, d2, f2, ss2, st⟩ s W.heap.size A1 A2 A3 c1 c2 c3 W (HRD.out W h) (Nat.le_refl _) hs1 hs2).mono ?_
        rintro e w' ⟨B1, b1, B2, b2, B3, b3, rfl, ho, hb⟩
        exact ⟨_, _, _, _, _, _, _, B1, b1, B2, b2, B3, b3, _, draft_do s HD.out, doRes_ok _ s HK.out ⟨hs1, hs2⟩, doRes_st s, rfl, ho, hb⟩
      have HST := hide kst
      have HDO := hide kdo
      clear kst kdo
      have C0 : Cur wr.drew g B A c bs := C_.drew
      have S0 : OwnS wr.drew w.heap.size wr.heap.size A2 c2 ss2 := o_D.o2.drew
      have O0 : OwnD wr.drew w.heap.size wr.heap.size A1 c1 A2 c2 A3 c3 ⟨d1, f1, ss1, d2, f2, ss2, st⟩ := o_D.drew
      have kD0 : wr.drew.heap[bD]? = some (.cells #[.int .i64 d1, .int .i64 f1, .slice A1 ss1.length c1, .int .i64 d2, .int .i64 f2, .slice A2 ss2.length c2, .slice A3 st.length c3] 83 (0, 0)) := k_D
      have kr0 : wr.drew.heap[br]? = some (.cells #[.int .i64 0, .int .i64 0, .slice none 0 0, .int .i64 0, .int .i64 0, .slice none 0 0, .slice none 0 0] 83 (0, 0)) := k_r
      have G0 : w.grownBy wr.drew (some g) := only_trans G_ ⟨rfl, rfl, rfl, Nat.le_refl _, fun _ _ _ => rfl⟩
      have hbDw := blk_lt k_D
      have hsd : wr.drew.heap.size = wr.heap.size := rfl
      go_region_with (first
        | (go_at_call 176; refine (HST.out _ C0 S0).mono ?_; rintro e w6 ⟨s, ⟨hsb, hsa⟩, rfl, C6, g6⟩; (have k6 := C0.blk_keep kD0 (show bD ≠ g by omega) g6); obtain ⟨y0, y1, y2, y3, y4, y5, y6, yl⟩ := blk7 k6)
        | (go_at_call 175; (have hs6 := g6.size); refine (HDO.out _ w6 ⟨(O0.boxy (C0.boxy g6)).o1.wide (Nat.le_refl _) (by omega), (O0.boxy (C0.boxy g6)).o2.wide (Nat.le_refl _) (by omega), (O0.boxy (C0.boxy g6)).o3.wide (Nat.le_refl _) (by omega), O0.ne⟩ hsb hsa).mono ?_; rintro e w7 ⟨e1, g1, ts1, e2, g2, ts2, tt, B1, b1, B2, b2, B3, b3, ok, HD7, HK7, htt, rfl, o7, z7⟩; (have k7 := blk_next k6 z7); obtain ⟨v0, v1, v2, v3, v4, v5, v6, vl⟩ := blk7 k7; obtain ⟨⟨u0, u1, u2, u3⟩, u4, u5, u6⟩ := bf7 k7))
      all_goals (
        have hs7 := z7.size
        have kr7 := blk_next (C0.blk_keep kr0 (show br ≠ g by omega) g6) z7
        have C7 := C6.below z7
        have G7 : w.grownBy w7 (some g) := grown_then (only_trans G0 g6) (z7.mono (by have := G0.size; omega))
        have hgb : boxAt w7 bD := boxAt_of k7
        go_wp2
        go_roundw
        case rel =>
          refine ⟨j - 1, e1, g1, ts1, e2, g2, ts2, tt, B1, b1, B2, b2, B3, b3, by omega, by congr 1; omega, HD7, HK7, by omega, blk7_set k7 _ _ _ _ _ _ _, blk_o7 kr7 (show br ≠ bD by omega) _ _ _ _ _ _ _, ?_, ?_, grown_then G7 bel⟩
          · exact (o7.boxy (w' := (((((((w7.setCell ⟨bD, 0, none⟩ (.int .i64 e1)).setCell ⟨bD, 1, none⟩ (.int .i64 g1)).setCell ⟨bD, 2, none⟩ (.slice B1 ts1.length b1)).setCell ⟨bD, 3, none⟩ (.int .i64 e2)).setCell ⟨bD, 4, none⟩ (.int .i64 g2)).setCell ⟨bD, 5, none⟩ (.slice B2 ts2.length b2)).setCell ⟨bD, 6, none⟩ (.slice B3 tt.length b3))) boxy).wide (by omega) (by simp [World.setCell])
          · iterate 7 (refine Cur.put_other ?_ (show g ≠ bD by omega) (show B ≤ bD by omega) _)
            exact C7
        case measure => simp [intOf]; omega)
    · have hj0 : j = 0 := by omega
      subst hj0
      obtain ⟨x0, x1, x2, x3, x4, x5, x6, xl⟩ := blk7 k_D
      obtain ⟨y0, y1, y2, y3, y4, y5, y6, yl⟩ := blk7 k_r
      obtain ⟨⟨u0, u1, u2, u3⟩, u4, u5, u6⟩ := bf7 k_r
      go_wp2
      refine bodyPost_ret (v := .agg #[.int .i64 d1, .int .i64 f1, .slice A1 ss1.length c1, .int .i64 d2, .int .i64 f2, .slice A2 ss2.length c2, .slice A3 st.length c3]) (by simp [results, Try.results126, go_sem, *]) rfl ?_
      refine ⟨d1, f1, ss1, d2, f2, ss2, st, A1, c1, A2, c2, A3, c3, HD.out, HK.out, by omega, rfl, ?_, ?_, grown_then G_ bel⟩
      · have hgb : boxAt wr br := boxAt_of k_r
        exact (o_D.boxy (w' := (((((((wr.setCell ⟨br, 0, none⟩ (.int .i64 d1)).setCell ⟨br, 1, none⟩ (.int .i64 f1)).setCell ⟨br, 2, none⟩ (.slice A1 ss1.length c1)).setCell ⟨br, 3, none⟩ (.int .i64 d2)).setCell ⟨br, 4, none⟩ (.int .i64 f2)).setCell ⟨br, 5, none⟩ (.slice A2 ss2.length c2)).setCell ⟨br, 6, none⟩ (.slice A3 st.length c3))) boxy).wide (Nat.le_refl _) (by simp [World.setCell])
      · iterate 7 (refine Cur.put_other ?_ (show g ≠ br by omega) (show B ≤ br by omega) _)
        exact C_
end Go.Proofs.Yteffbjddgdjkmaa
