/- FnCards: the walk. -/
import Derived.Test.YtmnlinclbnbpoaaCards1
import Derived.Test.YtmnlinclbnbpoaaLawDraw
import Derived.Test.YtmnlinclbnbpoaaLawKit2
import Derived.Test.YtmnlinclbnbpoaaPut1
import Derived.Test.YtmnlinclbnbpoaaCard6
import Derived.Test.YtmnlinclbnbpoaaSame1
import Derived.Test.YtmnlinclbnbpoaaSamp
import Derived.BigQuiet
import Derived.Deep.QuietTactic
namespace Go.Proofs.Ytmnlinclbnbpoaa.fnCards
open Go.ChangeShapes Go.WideShapes Go.ChangeAt Go.RowKit
set_option linter.unusedVariables false
set_option linter.unusedSimpArgs false
set_option maxRecDepth 10000

theorem code_drewN {w : World} {B : Nat} {A : Option Addr} {bs : List Int} (h : Code w B A bs) (q : Nat) : Code (w.drewN q) B A bs := ⟨h.rd.drewN q, h.nb, h.bd⟩
theorem drew_ok {d f : Nat} {ss : List ByteArray} (hb : 1 ≤ d ∧ d ≤ 4 ∧ 1 ≤ f ∧ f ≤ 4) (h1 : 1 ≤ ss.length) (h2 : ss.length ≤ 10) (h : ∀ x ∈ ss, Drew d f x) : cardOk d f ss = true := by
  have hall : ss.all (stripOf d f) = true := List.all_eq_true.2 fun x hx => by
    have hD := h x hx
    have hst := drew_strip hD hb.1 (by omega) hb.2.2.1 (by omega)
    obtain ⟨k1, k2, k3⟩ := hD
    unfold stripOf downOf forwardOf
    rw [hst, k1, k2]
    simp
  unfold cardOk
  rw [hall]
  simp [isStepsB, inB]
  omega
theorem ins_mem {ss : List ByteArray} {K : Nat} {s x : ByteArray} (h : x ∈ ss.take K ++ s :: ss.drop K) : x = s ∨ x ∈ ss := by
  rcases List.mem_append.1 h with h1 | h1
  · exact .inr (List.mem_of_mem_take h1)
  · rcases List.mem_cons.1 h1 with h2 | h2
    · exact .inl h2
    · exact .inr (List.mem_of_mem_drop h2)
theorem ins_len (ss : List ByteArray) (K : Nat) (s : ByteArray) (h : K ≤ ss.length) : (ss.take K ++ s :: ss.drop K).length = ss.length + 1 := by simp; omega
theorem ins_cut (ss : List ByteArray) (K : Nat) (s : ByteArray) (h : K ≤ ss.length) : (ss.take K ++ s :: ss.drop K).take K ++ (ss.take K ++ s :: ss.drop K).drop (K + 1) = ss := by
  have hl : (ss.take K).length = K := by simp; omega
  have h1 : (ss.take K ++ s :: ss.drop K).take K = ss.take K := by rw [List.take_append_of_le_length (by omega), List.take_of_length_le (by omega)]
  have h2 : (ss.take K ++ s :: ss.drop K).drop (K + 1) = ss.drop K := by
    rw [List.drop_append, List.drop_of_length_le (by omega), hl]
    simp
  rw [h1, h2, List.take_append_drop]
theorem ins_at (ss : List ByteArray) (K : Nat) (s : ByteArray) (h : K ≤ ss.length) (h2 : K < (ss.take K ++ s :: ss.drop K).length) : (ss.take K ++ s :: ss.drop K)[K] = s := by
  have hl : (ss.take K).length = K := by simp; omega
  rw [List.getElem_append_right (by omega)]
  simp [hl]
theorem insAt_yes {d f : Nat} {ss : List ByteArray} {K : Nat} {s : ByteArray} (hb : 1 ≤ d ∧ d ≤ 4 ∧ 1 ≤ f ∧ f ≤ 4) (h1 : 1 ≤ ss.length) (h2 : ss.length ≤ 6) (h : ∀ x ∈ ss, Drew d f x) (hs : Drew d f s) (hK : K ≤ ss.length) : insAt d f ss K s = (ss.take K ++ s :: ss.drop K, true) := by
  unfold insAt
  have hl := ins_len ss K s hK
  rw [Int.toNat_natCast, drew_ok hb h1 (by omega) h, drew_ok hb (by omega) (by omega) (fun x hx => by rcases ins_mem hx with rfl | h3; exact hs; exact h x h3)]
  have : inB (K : Int) 0 (ss.length : Int) = true := by simp [inB]; omega
  rw [this]
  rfl
theorem cutAt_yes {d f : Nat} {ss : List ByteArray} {K : Nat} {s : ByteArray} (hb : 1 ≤ d ∧ d ≤ 4 ∧ 1 ≤ f ∧ f ≤ 4) (h1 : 1 ≤ ss.length) (h2 : ss.length ≤ 6) (h : ∀ x ∈ ss, Drew d f x) (hs : Drew d f s) (hK : K ≤ ss.length) : cutAt d f (ss.take K ++ s :: ss.drop K) K = (ss, true) := by
  unfold cutAt
  have hl := ins_len ss K s hK
  rw [Int.toNat_natCast, ins_cut ss K s hK, drew_ok hb h1 (by omega) h, drew_ok hb (by omega) (by omega) (fun x hx => by rcases ins_mem hx with rfl | h3; exact hs; exact h x h3)]
  have : inB (K : Int) 0 (((ss.take K ++ s :: ss.drop K).length : Int) - 1) = true := by rw [hl]; simp [inB]; omega
  rw [this]
  rfl
theorem set_drew {d f : Nat} {ss : List ByteArray} {K : Nat} {s : ByteArray} (h : ∀ x ∈ ss, Drew d f x) (hs : Drew d f s) : ∀ x ∈ ss.set K s, Drew d f x := fun x hx => by
  rcases List.mem_or_eq_of_mem_set hx with h3 | h3
  · exact h x h3
  · rw [h3]; exact hs
theorem putAt_yes {d f : Nat} {ss : List ByteArray} {K : Nat} {s : ByteArray} (hb : 1 ≤ d ∧ d ≤ 4 ∧ 1 ≤ f ∧ f ≤ 4) (h1 : 1 ≤ ss.length) (h2 : ss.length ≤ 6) (h : ∀ x ∈ ss, Drew d f x) (hs : Drew d f s) (hK : K < ss.length) : putAt d f ss K s = (ss.set K s, true) := by
  unfold putAt
  rw [Int.toNat_natCast, drew_ok hb h1 (by omega) h, drew_ok hb (by simp; omega) (by simp; omega) (set_drew h hs)]
  have : inB (K : Int) 0 ((ss.length : Int) - 1) = true := by simp [inB]; omega
  rw [this]
  rfl
theorem sample_card : cardOk 3 4 sampleSS = true := by decide
theorem field_card (A : Option Addr) (c : Nat) (W : World) : (Instr.field 26 (.agg #[.int .i64 3, .int .i64 4, .slice A 5 c]) 2).run Try.prog W = .ok (.slice A 5 c) W := by kernel_rfl
theorem up_to {wi W w90 : World} (hb9 : Below W.heap.size W w90) (hWi : Below wi.heap.size wi W) : Below wi.heap.size wi w90 ∧ wi.heap.size ≤ W.heap.size := ⟨hWi.trans (hb9.mono hWi.size), hWi.size⟩
theorem leafCA {wf wi : World} {d f : Int} {n lo : Nat} {ss : List ByteArray} {A : Option Addr} {c : Nat} (ho : OwnS wf lo wf.heap.size A c ss) (hlo : wi.heap.size ≤ lo) (hb : Below wi.heap.size wi wf) :
    ∃ (g : Nat) (A9 : Option Addr) (c9 : Nat), Value.pointer (some ⟨wf.heap.size, 0, none⟩) = .pointer (some ⟨g, 0, none⟩) ∧ Value.bool true = .bool true ∧ (wf.alloc (.cells #[.int .i64 d, .int .i64 f, .slice A n c] 26)).heap[g]? = some (.cells #[.int .i64 d, .int .i64 f, .slice A9 n c9] 26 (0, 0)) ∧ OwnS (wf.alloc (.cells #[.int .i64 d, .int .i64 f, .slice A n c] 26)) wi.heap.size (wf.alloc (.cells #[.int .i64 d, .int .i64 f, .slice A n c] 26)).heap.size A9 c9 ss ∧ wi.heap.size ≤ g ∧ Below wi.heap.size wi (wf.alloc (.cells #[.int .i64 d, .int .i64 f, .slice A n c] 26)) :=
  ⟨_, A, c, rfl, rfl, blk_new _ _, (ho.alloc _).wide hlo (by simp), hb.size, hb.alloc hb.size _⟩
theorem leafCB {wf wi : World} {d f : Int} {n lo : Nat} {ss : List ByteArray} {A : Option Addr} {c : Nat} {z0 z1 z2 : Value} (hk : wf.heap[wi.heap.size]? = some (.cells #[z0, z1, z2] 26 (0, 0))) (ho : OwnS wf lo wf.heap.size A c ss) (hlo : wi.heap.size ≤ lo) (hb : Below wi.heap.size wi wf) :
    ∃ (g : Nat) (A9 : Option Addr) (c9 : Nat), Value.pointer (some ⟨wi.heap.size, 0, none⟩) = .pointer (some ⟨g, 0, none⟩) ∧ Value.bool true = .bool true ∧ (((wf.setCell ⟨wi.heap.size, 0, none⟩ (.int .i64 d)).setCell ⟨wi.heap.size, 1, none⟩ (.int .i64 f)).setCell ⟨wi.heap.size, 2, none⟩ (.slice A n c)).heap[g]? = some (.cells #[.int .i64 d, .int .i64 f, .slice A9 n c9] 26 (0, 0)) ∧ OwnS (((wf.setCell ⟨wi.heap.size, 0, none⟩ (.int .i64 d)).setCell ⟨wi.heap.size, 1, none⟩ (.int .i64 f)).setCell ⟨wi.heap.size, 2, none⟩ (.slice A n c)) wi.heap.size (((wf.setCell ⟨wi.heap.size, 0, none⟩ (.int .i64 d)).setCell ⟨wi.heap.size, 1, none⟩ (.int .i64 f)).setCell ⟨wi.heap.size, 2, none⟩ (.slice A n c)).heap.size A9 c9 ss ∧ wi.heap.size ≤ g ∧ Below wi.heap.size wi (((wf.setCell ⟨wi.heap.size, 0, none⟩ (.int .i64 d)).setCell ⟨wi.heap.size, 1, none⟩ (.int .i64 f)).setCell ⟨wi.heap.size, 2, none⟩ (.slice A n c)) :=
  ⟨_, A, c, rfl, rfl, blk3_set hk _ _ _, (ho.box hk (by decide) (by repeat (first | (with_reducible exact World.grownBy.refl _ _) | (with_reducible refine only_setCell ?_ (.inl rfl) _)))).wide hlo (by simp [World.setCell]), Nat.le_refl _, hb.trans (by repeat (first | (with_reducible exact Below.refl _ _) | (refine Below.setCell ?_ (show wi.heap.size ≤ wi.heap.size from Nat.le_refl wi.heap.size) _)))⟩
set_option maxHeartbeats 12800000 in
theorem walkCards (A : Option Addr) (c : Nat) (bs : List Int) (w : World) (hK : Code w w.heap.size A bs) :
    Calls Try.prog 3 #[.slice A bs.length c] w fun e w' => e = .returned (.bool true) ∧ Below w.heap.size w w' := by
  have hnb := hK.nb
  have hd : decide (1048576 < bs.length) = false := by simp; omega
  go_enter Try.func3, Try.ntmps3
  go_wp2_with (go_at_call 7; refine (l_big _ _ _ _ (by omega)).mono ?_; rw [hd]; rintro e w' ⟨rfl, rfl⟩)
  refine (s_DrawCard w.heap.size A c bs w hK (Nat.le_refl _)).mono ?_
  rintro e w1 ⟨d, f, ss, A', c', hbd, hss, rfl, ho1, hb1⟩
  have hsz : ∀ x ∈ ss, x.size ≤ 16777216 := fun x hx => by have := (hss x hx).2.2; omega
  have hS1 : Strs w1 w1.heap.size A' ss.length ss := ho1.rd (by omega) hsz
  have hs1 := hb1.size
  obtain ⟨X0, hX0⟩ : ∃ X, atV bs 0 = X := ⟨_, rfl⟩
  obtain ⟨X1, hX1⟩ : ∃ X, atV bs 1 = X := ⟨_, rfl⟩
  have hx0 := atV_bd hK.bd 0
  have hx1 := atV_bd hK.bd 1
  have kAt0 := fun (W : World) (h : Code W w.heap.size A bs) => l_at 0 w.heap.size A c bs W h (by omega)
  have kAt1 := fun (W : World) (h : Code W w.heap.size A bs) => l_at 1 w.heap.size A c bs W h (by omega)
  rw [hX0] at kAt0 hx0
  rw [hX1] at kAt1 hx1
  clear hX0 hX1
  obtain ⟨n, hn⟩ : ∃ n, ss.length = n := ⟨_, rfl⟩
  have HN := Lib.hid hn
  have hbd2 := hbd
  rw [hn] at hbd hS1 ⊢
  clear hn
  have hn16 := hbd.2.2.2.2
  obtain ⟨K, hKe⟩ : ∃ K : Nat, X0 % ((n : Int) + 1) = K := ⟨(X0 % ((n : Int) + 1)).toNat, by have := Int.emod_nonneg X0 (show (n : Int) + 1 ≠ 0 by omega); omega⟩
  obtain ⟨I, hIe⟩ : ∃ I : Nat, X1 % (n : Int) = I := ⟨(X1 % (n : Int)).toNat, by have := Int.emod_nonneg X1 (show (n : Int) ≠ 0 by omega); omega⟩
  have hKn : K ≤ n := by have := Int.emod_lt_of_pos X0 (show 0 < (n : Int) + 1 by omega); omega
  have hIn : I < n := by have := Int.emod_lt_of_pos X1 (show 0 < (n : Int) by omega); omega
  have hnz1 : ¬ (n : Int) + 1 = 0 := by omega
  have hnz2 : ¬ (n : Int) = 0 := by omega
  have HA0 := hide kAt0
  have HA1 := hide kAt1
  have HSZ := hide hsz
  have HSS := hide hss
  have HBD := hide hbd2
  clear kAt0 kAt1 hss hsz hbd2 ho1
  have hP0 : ∀ x ∈ ss.take K ++ (⟨#[]⟩ : ByteArray) :: ss.drop K, True := fun _ _ => trivial
  clear hP0
  have SC := hS1
  have hgB : Below w1.heap.size w1 w1 := Below.refl _ _
  go_wp2_with fail
  have kC_w2 := blk_new w1 (.cells #[.int .i64 d, .int .i64 f, .slice A' n c'] 26)
  have hb_w2 : Below w1.heap.size w1 (w1.alloc (.cells #[.int .i64 d, .int .i64 f, .slice A' n c'] 26)) := bel
  have gC_w2 := hb_w2
  generalize (w1.alloc (.cells #[.int .i64 d, .int .i64 f, .slice A' n c'] 26)) = w2 at *
  have hK2 := hK.below (hb1.trans (hb_w2.mono hs1))
  have HA2 := hide (fun q => HA0.out (w2.drewN q) (code_drewN hK2 q))
  obtain ⟨hC0, hC1, hC2, hCl⟩ := blk3 kC_w2
  go_wp2
  go_quiet ((go_at_call 9; first | exact quiet_left (unhide HA2 _) | exact quiet_add_left (unhide HA2 _)))
  go_wp2_with fail
  rw [hKe]
  clear hC0 hC1 hC2 hCl
  have hb_w3 : Below w2.heap.size w2 (w2.drewN nq) := bel
  have kC_w3 := blk_next kC_w2 hb_w3
  have gC_w3 := gC_w2.trans (hb_w3.mono gC_w2.size)
  clear kC_w2 gC_w2
  generalize (w2.drewN nq) = w3 at *
  refine (s_HighStrip d f _ hbd.1 (by omega) hbd.2.2.1 (by omega)).mono ?_
  rintro e w' ⟨s, rfl, hDs, rfl⟩
  have hss16 : s.size ≤ 16777216 := by have := hDs.2.2; omega
  have HPsz : Hid (∀ x ∈ ss.take K ++ s :: ss.drop K, x.size ≤ 16777216) := fun x hx => by
    rcases ins_mem hx with rfl | h3
    · exact hss16
    · exact HSZ.out x h3
  have hbd4 : 1 ≤ d ∧ d ≤ 4 ∧ 1 ≤ f ∧ f ≤ 4 := by omega
  have q1 := insAt_yes (K := K) (s := s) hbd4 (by rw [HN.out]; omega) (by rw [HN.out]; omega) HSS.out hDs (by rw [HN.out]; omega)
  have q2 := cutAt_yes (K := K) (s := s) hbd4 (by rw [HN.out]; omega) (by rw [HN.out]; omega) HSS.out hDs (by rw [HN.out]; omega)
  have q3 := putAt_yes (K := I) (s := s) hbd4 (by rw [HN.out]; omega) (by rw [HN.out]; omega) HSS.out hDs (by rw [HN.out]; omega)
  have hIl : I < ss.length := by rw [HN.out]; omega
  have q4 := putAt_yes (ss := ss.set I s) (K := I) (s := ss[I]) hbd4 (by simp; rw [HN.out]; omega) (by simp; rw [HN.out]; omega) (set_drew HSS.out hDs) (HSS.out _ (List.getElem_mem hIl)) (by simp; rw [HN.out]; omega)
  rw [List.set_set, List.set_getElem_self] at q4
  have q5 := drew_ok (ss := ss.set I s) hbd4 (by simp; rw [HN.out]; omega) (by simp; rw [HN.out]; omega) (set_drew HSS.out hDs)
  have hPl : (ss.take K ++ s :: ss.drop K).length = n + 1 := by rw [ins_len ss K s (by rw [HN.out]; omega), HN.out]
  have hPk : ∀ h : K < (ss.take K ++ s :: ss.drop K).length, (ss.take K ++ s :: ss.drop K)[K] = s := fun h => ins_at ss K s (by rw [HN.out]; omega) h
  have hSl : (ss.set I s).length = n := by simp; exact HN.out
  have HSsz : Hid (∀ x ∈ ss.set I s, x.size ≤ 16777216) := fun x hx => by have := (set_drew HSS.out hDs x hx).2.2; omega
  have hq := HSZ.out _ (List.getElem_mem hIl)
  have HQ := Lib.hid (show ss.getD I ⟨#[]⟩ = ss[I] by rw [List.getD_eq_getElem?_getD, List.getElem?_eq_getElem hIl]; rfl)
  generalize ss[I] = si at *
  generalize ss.take K ++ s :: ss.drop K = P at *
  generalize ss.set I s = R at *
  have kPut : ∀ (W : World) (B : Nat), Strs W B A' n ss → B ≤ W.heap.size → Calls Try.prog 11 #[.agg #[.int .i64 d, .int .i64 f, .slice A' n c'], .int .i64 K, .string s] W fun e w' => ∃ A2 c2, e = .returned (.tuple #[.agg #[.int .i64 d, .int .i64 f, .slice A2 (n + 1) c2], .bool true]) ∧ Strs w' w'.heap.size A2 (n + 1) P ∧ Below W.heap.size W w' := by
    intro W B h hz
    have h2 := i_PutStrip d f B A' n c' ss K s W h hz hss16 (by omega)
    rw [q1] at h2
    refine h2.mono ?_
    rintro e w' ⟨A2, c2, rfl, ho, hb⟩
    rw [hPl] at ho ⊢
    exact ⟨A2, c2, rfl, strs_of_own ho (by omega) HPsz.out, hb⟩
  have kCut : ∀ (W : World) (B : Nat) (A2 : Option Addr) (c2 : Nat), Strs W B A2 (n + 1) P → B ≤ W.heap.size → Calls Try.prog 12 #[.agg #[.int .i64 d, .int .i64 f, .slice A2 (n + 1) c2], .int .i64 K] W fun e w' => ∃ A2 c2, e = .returned (.tuple #[.agg #[.int .i64 d, .int .i64 f, .slice A2 n c2], .bool true]) ∧ Strs w' w'.heap.size A2 n ss ∧ Below W.heap.size W w' := by
    intro W B A2 c2 h hz
    have h2 := i_CutStrip d f B A2 (n + 1) c2 P K W h hz
    rw [q2] at h2
    refine h2.mono ?_
    rintro e w' ⟨A2, c2, rfl, ho, hb⟩
    rw [HN.out] at ho ⊢
    exact ⟨A2, c2, rfl, strs_of_own ho (by omega) HSZ.out, hb⟩
  have kWith : ∀ (W : World) (B : Nat), Strs W B A' n ss → B ≤ W.heap.size → Calls Try.prog 14 #[.agg #[.int .i64 d, .int .i64 f, .slice A' n c'], .int .i64 I, .string s] W fun e w' => ∃ A2 c2, e = .returned (.tuple #[.agg #[.int .i64 d, .int .i64 f, .slice A2 n c2], .bool true]) ∧ Strs w' w'.heap.size A2 n R ∧ Below W.heap.size W w' := by
    intro W B h hz
    have h2 := i_WithStrip d f B A' n c' ss I s W h hz hss16
    rw [q3] at h2
    refine h2.mono ?_
    rintro e w' ⟨A2, c2, rfl, ho, hb⟩
    rw [hSl] at ho ⊢
    exact ⟨A2, c2, rfl, strs_of_own ho (by omega) HSsz.out, hb⟩
  have kBack : ∀ (W : World) (B : Nat) (A2 : Option Addr) (c2 : Nat), Strs W B A2 n R → B ≤ W.heap.size → Calls Try.prog 14 #[.agg #[.int .i64 d, .int .i64 f, .slice A2 n c2], .int .i64 I, .string si] W fun e w' => ∃ A2 c2, e = .returned (.tuple #[.agg #[.int .i64 d, .int .i64 f, .slice A2 n c2], .bool true]) ∧ OwnS w' W.heap.size w'.heap.size A2 c2 ss ∧ Below W.heap.size W w' := by
    intro W B A2 c2 h hz
    have h2 := i_WithStrip d f B A2 n c2 R I si W h hz hq
    rw [q4] at h2
    refine h2.mono ?_
    rintro e w' ⟨A2, c2, rfl, ho, hb⟩
    have ho2 := OwnS.of ho (Nat.le_refl _)
    rw [HN.out]
    exact ⟨A2, c2, rfl, ho2, hb⟩
  have kSame : ∀ (W : World) (B : Nat) (A2 : Option Addr) (c2 : Nat), Strs W B A2 n ss → Strs W B A' n ss → B ≤ W.heap.size → Calls Try.prog 13 #[.agg #[.int .i64 d, .int .i64 f, .slice A2 n c2], .agg #[.int .i64 d, .int .i64 f, .slice A' n c']] W fun e w' => e = .returned (.bool true) ∧ Below W.heap.size W w' := by
    intro W B A2 c2 h h3 hz
    have h2 := i_SameCard d f d f B A2 A' n c2 n c' ss ss W h h3 hz
    rw [show sameCard d f d f ss ss = true by simp [sameCard, eqSS]] at h2
    exact h2
  have kOk : ∀ (W : World) (B : Nat) (A2 : Option Addr) (c2 : Nat), Strs W B A2 n R → B ≤ W.heap.size → Calls Try.prog 16 #[.agg #[.int .i64 d, .int .i64 f, .slice A2 n c2]] W fun e w' => e = .returned (.bool true) ∧ Below W.heap.size W w' := by
    intro W B A2 c2 h hz
    have h2 := i_CardOk d f A2 n c2 R W (h.more hz)
    rw [q5] at h2
    exact h2
  have kPlain : ∀ W : World, Calls Try.prog 15 #[.int .i64 d, .int .i64 f, .int .i64 3] W fun e w' => ∃ A5 c5, e = .returned (.tuple #[.agg #[.int .i64 d, .int .i64 f, .slice A5 3 c5], .bool true]) ∧ Below W.heap.size W w' := by
    intro W
    have h2 : Calls Try.prog 15 #[.int .i64 d, .int .i64 f, .int .i64 ((3 : Nat) : Int)] W _ := i_PlainCard d f 3 W hbd.1 (by omega) hbd.2.2.1 (by omega) (by omega) (by omega)
    refine Calls.mono h2 ?_
    rintro e w' ⟨A5, c5, rfl, _, hb⟩
    rw [List.length_replicate]
    exact ⟨A5, c5, rfl, hb⟩
  have kSam : ∀ W : World, Calls Try.prog 17 #[] W fun e w' => ∃ A7 c7, e = .returned (.agg #[.int .i64 3, .int .i64 4, .slice A7 5 c7]) ∧ Strs w' w'.heap.size A7 5 sampleSS ∧ Below W.heap.size W w' := by
    intro W
    refine (i_SampleCard W).mono ?_
    rintro e w' ⟨A7, c7, rfl, ho, hb⟩
    have h3 := ho.rd (by decide) (fun x hx => by have := sample_ok.2 x hx; omega)
    exact ⟨A7, c7, rfl, h3, hb⟩
  have kSok : ∀ (W : World) (A7 : Option Addr) (c7 : Nat), Strs W W.heap.size A7 5 sampleSS → Calls Try.prog 16 #[.agg #[.int .i64 3, .int .i64 4, .slice A7 5 c7]] W fun e w' => e = .returned (.bool true) ∧ Below W.heap.size W w' := by
    intro W A7 c7 h
    have h2 := i_CardOk 3 4 A7 5 c7 sampleSS W h
    rw [sample_card] at h2
    exact h2
  have HPlain := hide kPlain
  have HSam := hide kSam
  have HSok := hide kSok
  clear kPlain kSam kSok
  have HPut := hide kPut
  have HCut := hide kCut
  have HWith := hide kWith
  have HBack := hide kBack
  have HSame := hide kSame
  have HOk := hide kOk
  have HPk := hide hPk
  clear kPut kCut kWith kBack kSame kOk q1 q2 q3 q4 q5 hPl hSl hPk hIl hDs
  obtain ⟨hC0, hC1, hC2, hCl⟩ := blk3 kC_w3
  go_wp2_with fail
  clear hC0 hC1 hC2 hCl
  refine (HPut.out w3 w1.heap.size (SC.below gC_w3) gC_w3.size).mono ?_
  rintro e w4 ⟨A2, c2, rfl, SP, hb_w4⟩
  have kC_w4 := blk_next kC_w3 hb_w4
  have gC_w4 := gC_w3.trans (hb_w4.mono gC_w3.size)
  clear kC_w3 gC_w3
  obtain ⟨hC0, hC1, hC2, hCl⟩ := blk3 kC_w4
  go_wp2_with fail
  clear hC0 hC1 hC2 hCl
  have kP_w5 := blk_new w4 (.cells #[.int .i64 d, .int .i64 f, .slice A2 (n + 1) c2] 26)
  have hb_w5 : Below w4.heap.size w4 (w4.alloc (.cells #[.int .i64 d, .int .i64 f, .slice A2 (n + 1) c2] 26)) := bel
  have kC_w5 := blk_next kC_w4 hb_w5
  have gC_w5 := gC_w4.trans (hb_w5.mono gC_w4.size)
  clear kC_w4 gC_w4
  have gP_w5 := hb_w5
  generalize (w4.alloc (.cells #[.int .i64 d, .int .i64 f, .slice A2 (n + 1) c2] 26)) = w5 at *
  go_wp2_with fail
  refine (HCut.out w5 w4.heap.size A2 c2 (SP.below gP_w5) gP_w5.size).mono ?_
  rintro e w6 ⟨A3, c3, rfl, SQ, hb_w6⟩
  have kC_w6 := blk_next kC_w5 hb_w6
  have gC_w6 := gC_w5.trans (hb_w6.mono gC_w5.size)
  clear kC_w5 gC_w5
  have kP_w6 := blk_next kP_w5 hb_w6
  have gP_w6 := gP_w5.trans (hb_w6.mono gP_w5.size)
  clear kP_w5 gP_w5
  obtain ⟨hC0, hC1, hC2, hCl⟩ := blk3 kC_w6
  obtain ⟨hP0, hP1, hP2, hPl⟩ := blk3 kP_w6
  go_wp2_with fail
  clear hC0 hC1 hC2 hCl hP0 hP1 hP2 hPl
  have kQ_w7 := blk_new w6 (.cells #[.int .i64 d, .int .i64 f, .slice A3 n c3] 26)
  have hb_w7 : Below w6.heap.size w6 (w6.alloc (.cells #[.int .i64 d, .int .i64 f, .slice A3 n c3] 26)) := bel
  have kC_w7 := blk_next kC_w6 hb_w7
  have gC_w7 := gC_w6.trans (hb_w7.mono gC_w6.size)
  clear kC_w6 gC_w6
  have kP_w7 := blk_next kP_w6 hb_w7
  have gP_w7 := gP_w6.trans (hb_w7.mono gP_w6.size)
  clear kP_w6 gP_w6
  have gQ_w7 := hb_w7
  generalize (w6.alloc (.cells #[.int .i64 d, .int .i64 f, .slice A3 n c3] 26)) = w7 at *
  obtain ⟨hC0, hC1, hC2, hCl⟩ := blk3 kC_w7
  obtain ⟨hP0, hP1, hP2, hPl⟩ := blk3 kP_w7
  obtain ⟨hQ0, hQ1, hQ2, hQl⟩ := blk3 kQ_w7
  go_wp2_with fail
  clear hC0 hC1 hC2 hCl hP0 hP1 hP2 hPl hQ0 hQ1 hQ2 hQl
  refine (HSame.out w7 w7.heap.size A3 c3 ((SQ.below gQ_w7).more gQ_w7.size) ((SC.below gC_w7).more gC_w7.size) (Nat.le_refl _)).mono ?_
  rintro e w8 ⟨rfl, hb_w8⟩
  have kC_w8 := blk_next kC_w7 hb_w8
  have gC_w8 := gC_w7.trans (hb_w8.mono gC_w7.size)
  clear kC_w7 gC_w7
  have kP_w8 := blk_next kP_w7 hb_w8
  have gP_w8 := gP_w7.trans (hb_w8.mono gP_w7.size)
  clear kP_w7 gP_w7
  have kQ_w8 := blk_next kQ_w7 hb_w8
  have gQ_w8 := gQ_w7.trans (hb_w8.mono gQ_w7.size)
  clear kQ_w7 gQ_w7
  obtain ⟨hk9, ad2, rfl, hab2, hcs2, hsb2⟩ := (SP.below gP_w8).at_ (k := K) (by omega)
  rw [HPk.out hk9] at hcs2
  have hKb : (K : Int) < (n : Int) + 1 := by omega
  have hK5 := hK.below (hb1.trans (gC_w8.mono hs1))
  have HA5 := hide (fun q => HA1.out (w8.drewN q) (code_drewN hK5 q))
  obtain ⟨hC0, hC1, hC2, hCl⟩ := blk3 kC_w8
  obtain ⟨hP0, hP1, hP2, hPl⟩ := blk3 kP_w8
  go_wp2
  go_quiet ((go_at_call 9; first | exact quiet_left (unhide HA5 _) | exact quiet_add_left (unhide HA5 _)))
  go_wp2_with fail
  rw [hIe]
  clear hcs2 hab2 hsb2 hKb
  clear hC0 hC1 hC2 hCl hP0 hP1 hP2 hPl
  clear kP_w8 gP_w8
  clear kQ_w8 gQ_w8
  have hb_w9 : Below w8.heap.size w8 (w8.drewN nq) := bel
  have kC_w9 := blk_next kC_w8 hb_w9
  have gC_w9 := gC_w8.trans (hb_w9.mono gC_w8.size)
  clear kC_w8 gC_w8
  generalize (w8.drewN nq) = w9 at *
  refine (HWith.out w9 w1.heap.size (SC.below gC_w9) gC_w9.size).mono ?_
  rintro e w10 ⟨A4, c4, rfl, SR, hb_w10⟩
  have kC_w10 := blk_next kC_w9 hb_w10
  have gC_w10 := gC_w9.trans (hb_w10.mono gC_w9.size)
  clear kC_w9 gC_w9
  obtain ⟨hC0, hC1, hC2, hCl⟩ := blk3 kC_w10
  go_wp2_with fail
  clear hC0 hC1 hC2 hCl
  have kR_w11 := blk_new w10 (.cells #[.int .i64 d, .int .i64 f, .slice A4 n c4] 26)
  have hb_w11 : Below w10.heap.size w10 (w10.alloc (.cells #[.int .i64 d, .int .i64 f, .slice A4 n c4] 26)) := bel
  have kC_w11 := blk_next kC_w10 hb_w11
  have gC_w11 := gC_w10.trans (hb_w11.mono gC_w10.size)
  clear kC_w10 gC_w10
  have gR_w11 := hb_w11
  generalize (w10.alloc (.cells #[.int .i64 d, .int .i64 f, .slice A4 n c4] 26)) = w11 at *
  obtain ⟨hk9, ad, rfl, hab, hcs, hsb⟩ := (SC.below gC_w11).at_ (k := I) (by omega)
  have hsi : ss[I] = si := by rw [← HQ.out, List.getD_eq_getElem?_getD, List.getElem?_eq_getElem hk9]; rfl
  rw [hsi] at hcs
  clear hsi hsb
  have hIb : (I : Int) < (n : Int) := by omega
  have hadl : (ad.add I).block < w11.heap.size := by rw [block_of_add]; have := gC_w11.size; omega
  obtain ⟨hC0, hC1, hC2, hCl⟩ := blk3 kC_w11
  obtain ⟨hR0, hR1, hR2, hRl⟩ := blk3 kR_w11
  have SRi := (SR.below gR_w11)
  have SRz := gR_w11.size
  go_wp2
  go_cut [13, 14] (fun s13 s14 wx => ∃ (g : Nat) (A9 : Option Addr) (c9 : Nat), s13 = .pointer (some ⟨g, 0, none⟩) ∧ s14 = .bool true ∧ wx.heap[g]? = some (.cells #[.int .i64 d, .int .i64 f, .slice A9 n c9] 26 (0, 0)) ∧ OwnS wx w11.heap.size wx.heap.size A9 c9 ss ∧ w11.heap.size ≤ g ∧ Below w11.heap.size w11 wx)
  case first =>
    go_region_held3 (fun W => (∀ p : Addr, p.block < w11.heap.size → W.cell? p = (w11).cell? p) ∧ (∀ p : Addr, p.block < w11.heap.size → W.frozen? p = (w11).frozen? p) ∧ Below (w11.heap.size) (w11) W) (exact keep_ofP bel) (first | (go_at_call 14; have hq := (‹_ ∧ _ ∧ Below _ _ _›).2.2; refine (HBack.out _ w10.heap.size A4 c4 ?_ ?_).mono ?_; exact SRi.below (hq.mono SRz); exact Nat.le_trans SRz hq.size; rintro e w90 ⟨A9, c9, rfl, ho9, hb9⟩; have hup := up_to hb9 hq; have ho90 := ho9.wide hup.2 (Nat.le_refl _); have hqs9 := hq.size; have hs9 := hb9.size; (try simp at hqs9); (try simp at hs9); obtain ⟨hcb9, hfb9⟩ := bcell hb9))
    all_goals (go_wp2_with fail)
    all_goals (go_meet)
    all_goals (first
      | (with_reducible exact leafCA ho90 (Nat.le_refl _) hup.1)
      | ((with_reducible refine leafCB (z0 := .int .i64 0) (z1 := .int .i64 0) (z2 := .slice none 0 0) ?_ ho90 (Nat.le_refl _) hup.1); (repeat (first | (with_reducible exact blk_new _ _) | (with_reducible refine blk_next ?_ hb9) | (with_reducible refine blk_drew ?_) | (with_reducible refine blk_alloc ?_ _) | (exact blk_new_at _ _ rfl)))))
  obtain ⟨g9, A9, c9, rfl, rfl, kX_c, hoX, hg9, hb_c⟩ := hcut
  obtain ⟨w12, hwc⟩ : ∃ Q9 : World, Q9 = wc := ⟨_, rfl⟩
  subst hwc
  have SX := hoX.rd (by rw [HN.out]; omega) HSZ.out
  rw [HN.out] at SX
  have kX_w12 := kX_c
  have gX_w12 : Below w12.heap.size w12 w12 := Below.refl _ _
  clear hcs hab hadl hIb SRi SRz kX_c hoX
  clear hC0 hC1 hC2 hCl hR0 hR1 hR2 hRl
  have kC_w12 := blk_next kC_w11 hb_c
  have gC_w12 := gC_w11.trans (hb_c.mono gC_w11.size)
  clear kC_w11 gC_w11
  have kR_w12 := blk_next kR_w11 hb_c
  have gR_w12 := gR_w11.trans (hb_c.mono gR_w11.size)
  clear kR_w11 gR_w11
  obtain ⟨hC0, hC1, hC2, hCl⟩ := blk3 kC_w12
  go_wp2_with fail
  clear hC0 hC1 hC2 hCl
  refine (HPlain.out w12).mono ?_
  rintro e w13 ⟨A5, c5, rfl, hb_w13⟩
  have kC_w13 := blk_next kC_w12 hb_w13
  have gC_w13 := gC_w12.trans (hb_w13.mono gC_w12.size)
  clear kC_w12 gC_w12
  have kR_w13 := blk_next kR_w12 hb_w13
  have gR_w13 := gR_w12.trans (hb_w13.mono gR_w12.size)
  clear kR_w12 gR_w12
  have kX_w13 := blk_next kX_w12 hb_w13
  have gX_w13 := gX_w12.trans (hb_w13.mono gX_w12.size)
  clear kX_w12 gX_w12
  obtain ⟨hC0, hC1, hC2, hCl⟩ := blk3 kC_w13
  obtain ⟨hX0, hX1, hX2, hXl⟩ := blk3 kX_w13
  go_wp2_with fail
  clear hC0 hC1 hC2 hCl hX0 hX1 hX2 hXl
  have kY_w14 := blk_new w13 (.cells #[.int .i64 d, .int .i64 f, .slice A5 3 c5] 26)
  have hb_w14 : Below w13.heap.size w13 (w13.alloc (.cells #[.int .i64 d, .int .i64 f, .slice A5 3 c5] 26)) := bel
  have kC_w14 := blk_next kC_w13 hb_w14
  have gC_w14 := gC_w13.trans (hb_w14.mono gC_w13.size)
  clear kC_w13 gC_w13
  have kR_w14 := blk_next kR_w13 hb_w14
  have gR_w14 := gR_w13.trans (hb_w14.mono gR_w13.size)
  clear kR_w13 gR_w13
  have kX_w14 := blk_next kX_w13 hb_w14
  have gX_w14 := gX_w13.trans (hb_w14.mono gX_w13.size)
  clear kX_w13 gX_w13
  have gY_w14 := hb_w14
  generalize (w13.alloc (.cells #[.int .i64 d, .int .i64 f, .slice A5 3 c5] 26)) = w14 at *
  refine (HSame.out w14 w14.heap.size A9 c9 ((SX.below gX_w14).more gX_w14.size) ((SC.below gC_w14).more gC_w14.size) (Nat.le_refl _)).mono ?_
  rintro e w15 ⟨rfl, hb_w15⟩
  have kC_w15 := blk_next kC_w14 hb_w15
  have gC_w15 := gC_w14.trans (hb_w15.mono gC_w14.size)
  clear kC_w14 gC_w14
  have kR_w15 := blk_next kR_w14 hb_w15
  have gR_w15 := gR_w14.trans (hb_w15.mono gR_w14.size)
  clear kR_w14 gR_w14
  have kX_w15 := blk_next kX_w14 hb_w15
  have gX_w15 := gX_w14.trans (hb_w15.mono gX_w14.size)
  clear kX_w14 gX_w14
  have kY_w15 := blk_next kY_w14 hb_w15
  have gY_w15 := gY_w14.trans (hb_w15.mono gY_w14.size)
  clear kY_w14 gY_w14
  obtain ⟨hR0, hR1, hR2, hRl⟩ := blk3 kR_w15
  go_wp2_with fail
  clear hR0 hR1 hR2 hRl
  refine (HOk.out w15 w10.heap.size A4 c4 (SR.below gR_w15) gR_w15.size).mono ?_
  rintro e w16 ⟨rfl, hb_w16⟩
  have kC_w16 := blk_next kC_w15 hb_w16
  have gC_w16 := gC_w15.trans (hb_w16.mono gC_w15.size)
  clear kC_w15 gC_w15
  have kR_w16 := blk_next kR_w15 hb_w16
  have gR_w16 := gR_w15.trans (hb_w16.mono gR_w15.size)
  clear kR_w15 gR_w15
  have kX_w16 := blk_next kX_w15 hb_w16
  have gX_w16 := gX_w15.trans (hb_w16.mono gX_w15.size)
  clear kX_w15 gX_w15
  have kY_w16 := blk_next kY_w15 hb_w16
  have gY_w16 := gY_w15.trans (hb_w16.mono gY_w15.size)
  clear kY_w15 gY_w15
  obtain ⟨hY0, hY1, hY2, hYl⟩ := blk3 kY_w16
  go_wp2_with fail
  clear hY0 hY1 hY2 hYl
  refine (HSam.out w16).mono ?_
  rintro e w17 ⟨A7, c7, rfl, S7, hb_w17⟩
  have kC_w17 := blk_next kC_w16 hb_w17
  have gC_w17 := gC_w16.trans (hb_w17.mono gC_w16.size)
  clear kC_w16 gC_w16
  have kR_w17 := blk_next kR_w16 hb_w17
  have gR_w17 := gR_w16.trans (hb_w17.mono gR_w16.size)
  clear kR_w16 gR_w16
  have kX_w17 := blk_next kX_w16 hb_w17
  have gX_w17 := gX_w16.trans (hb_w17.mono gX_w16.size)
  clear kX_w16 gX_w16
  have kY_w17 := blk_next kY_w16 hb_w17
  have gY_w17 := gY_w16.trans (hb_w17.mono gY_w16.size)
  clear kY_w16 gY_w16
  go_wp2_with fail
  refine (HSok.out w17 A7 c7 S7).mono ?_
  rintro e w18 ⟨rfl, hb_w18⟩
  have kC_w18 := blk_next kC_w17 hb_w18
  have gC_w18 := gC_w17.trans (hb_w18.mono gC_w17.size)
  clear kC_w17 gC_w17
  have kR_w18 := blk_next kR_w17 hb_w18
  have gR_w18 := gR_w17.trans (hb_w18.mono gR_w17.size)
  clear kR_w17 gR_w17
  have kX_w18 := blk_next kX_w17 hb_w18
  have gX_w18 := gX_w17.trans (hb_w18.mono gX_w17.size)
  clear kX_w17 gX_w17
  have kY_w18 := blk_next kY_w17 hb_w18
  have gY_w18 := gY_w17.trans (hb_w18.mono gY_w17.size)
  clear kY_w17 gY_w17
  go_wp2_with fail
  refine (HSam.out w18).mono ?_
  rintro e w19 ⟨A8, c8, rfl, S8, hb_w19⟩
  have kC_w19 := blk_next kC_w18 hb_w19
  have gC_w19 := gC_w18.trans (hb_w19.mono gC_w18.size)
  clear kC_w18 gC_w18
  have kR_w19 := blk_next kR_w18 hb_w19
  have gR_w19 := gR_w18.trans (hb_w19.mono gR_w18.size)
  clear kR_w18 gR_w18
  have kX_w19 := blk_next kX_w18 hb_w19
  have gX_w19 := gX_w18.trans (hb_w19.mono gX_w18.size)
  clear kX_w18 gX_w18
  have kY_w19 := blk_next kY_w18 hb_w19
  have gY_w19 := gY_w18.trans (hb_w19.mono gY_w18.size)
  clear kY_w18 gY_w18
  have hfield := field_card A8 c8 w19
  go_wp2
  go_ret
  exact ⟨rfl, hb1.trans (gC_w19.mono hs1)⟩
end Go.Proofs.Ytmnlinclbnbpoaa.fnCards
