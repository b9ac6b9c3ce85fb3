/- FnLikeness: the walk. -/
import Derived.Deep.DeepCutAuto
import Derived.Deep.RegionHeld3
import Derived.Test.YtccjedongkokoaaRows
import Derived.Test.YtccjedongkokoaaQLae
import Derived.Test.YtccjedongkokoaaQLu
import Derived.Test.YtccjedongkokoaaQLaa
namespace Go.Proofs.Ytccjedongkokoaa.fnLikeness
open Go.ChangeShapes Go.WideShapes Go.ChangeAt Go.RowKit
set_option linter.unusedVariables false
set_option linter.unusedSimpArgs false
set_option maxRecDepth 10000
theorem reads_new9 (W : World) (cs : Array Value) (t : TypeId) (n size : Nat) (h : cs.size = n * size) : Reads (W.alloc (.cells cs t)) (W.heap.size + 1) size (some ⟨W.heap.size, 0, none⟩) n cs.toList :=
  ⟨by simpa using h, fun _ => ⟨_, rfl, by simp, fun j u hj => World.news_of_block (blk_new W (.cells cs t)) j u hj⟩⟩
theorem symU_ok {d f : Int} {ss ts : List ByteArray} (h : cardOk d f ss = true) (k : cardOk d f ts = true) (hl : ts.length = ss.length) : cardOk d f (List.zipWith mixB ss ts) = true := by
  obtain ⟨p1, p2, p3⟩ := card_iff.1 h
  refine card_iff.2 ⟨p1, by rw [zip_lenS _ _ hl]; exact p2, fun s hs => ?_⟩
  obtain ⟨a, ha, b, hb, rfl⟩ := zip_memS _ _ _ hs
  have hf := (fr_of h k hl.symm).2 a ha b hb
  obtain ⟨q1, q2, q3⟩ := mixB_strip hf
  obtain ⟨_, r2, r3⟩ := p3 a ha
  exact ⟨q1, by omega, by omega⟩
theorem side_val {d f : Int} {ss ts : List ByteArray} (h : cardOk d f ss = true) (k : cardOk d f ts = true) (hl : ts.length = ss.length) : sideOf d f d f ss ts = min (costL ss ts) (costL ss ts.reverse) := by
  have e1 : costOf d f d f ss ts = costL ss ts := cost_yes (by unfold alike; rw [h, k, hl]; simp)
  have hm : mirrorRes d f ts = (d, f, ts.reverse) := by unfold mirrorRes; rw [k]; rfl
  have e2 : costOf d f d f ss ts.reverse = costL ss ts.reverse := cost_yes (by unfold alike; rw [h, cardOk_rev k, List.length_reverse, hl]; simp)
  have h0 := cost_nn (a := ss) (b := ts) hl.symm (fr_of h k hl.symm).2
  unfold sideOf
  rw [hm, e1]
  dsimp only
  rw [e2, if_neg (by omega)]
theorem cost_val {d f : Int} {ss ts : List ByteArray} (h : cardOk d f ss = true) (k : cardOk d f ts = true) (hl : ts.length = ss.length) : costOf d f d f ss ts = costL ss ts := cost_yes (by unfold alike; rw [h, k, hl]; simp)
set_option maxHeartbeats 25600000 in
theorem walkLikeness (A : Option Addr) (c : Nat) (bs : List Int) (w : World) (hK : Code w w.heap.size A bs) :
    Calls Try.prog 4 #[.slice A bs.length c] w fun e w' => e = .returned (.bool true) ∧ Below w.heap.size w w' := by
  have hnb := hK.nb
  have hd : decide (1048576 < bs.length) = false := by simp; omega
  go_enter Try.func4, Try.ntmps4
  go_wp2_with (go_at_call 7; refine (l_big _ _ _ _ (by omega)).mono ?_; rw [hd]; rintro e w' ⟨rfl, rfl⟩)
  refine (s_DrawCards w.heap.size A c bs w hK (Nat.le_refl _)).mono ?_
  rintro e w1 ⟨d, f, n, ss, ts, A1, A2, c1, c2, hbd, hl1, hl2, hss, hts, rfl, SB, SC, hb1⟩
  have hc1 := drew_cardOk (ss := ss) (by rw [hl1]; exact hbd) hss
  have hc2 := drew_cardOk (ss := ts) (by rw [hl2]; exact hbd) hts
  have hs1 := hb1.size
  have hn16 := hbd.2.2.2.2
  have hlr : ts.reverse.length = ss.length := by rw [List.length_reverse, hl1, hl2]
  have hcr := cardOk_rev hc2
  have hcu := symU_ok hc1 hcr hlr
  have hlu : (List.zipWith mixB ss ts.reverse).length = n := by rw [zip_lenS _ _ hlr]; exact hl1
  obtain ⟨us, hus⟩ : ∃ x, List.zipWith mixB ss ts.reverse = x := ⟨_, rfl⟩
  rw [hus] at hcu hlu
  have hcm := midS_ok hc1 hc2 hcu (by omega) (by omega)
  have hlm : (midS ss ts us).length = n := by rw [midS_len _ _ _ (by omega) (by omega)]; exact hl1
  have f12 := (fr_of hc1 hc2 (by omega)).2
  have f21 := (fr_of hc2 hc1 (by omega)).2
  have f13 := (fr_of hc1 hcu (by omega)).2
  have f32 := (fr_of hcu hc2 (by omega)).2
  have f31 := (fr_of hcu hc1 (by omega)).2
  have f23 := (fr_of hc2 hcu (by omega)).2
  have x0 := cost_nn (a := ss) (b := ts) (by omega) f12
  have x1 := cost_ten (a := ss) (b := ts) (by omega)
  have x2 := cost_comm (a := ts) (b := ss) (by omega) f21
  have x3 := cost_zero (a := ss) (b := ts) (by omega) f12
  have x4 := cost_tri (a := ss) (b := us) (c := ts) (by omega) (by omega) f13 f32
  have x5 := cost_mid (a := ss) (b := ts) (c := us) (by omega) (by omega) f12 f23
  have x6 := cost_nn (a := ss) (b := us) (by omega) f13
  have x7 := cost_ten (a := ss) (b := us) (by omega)
  have x8 := cost_nn (a := us) (b := ts) (by omega) f32
  have x9 := cost_ten (a := us) (b := ts) (by omega)
  have y0 := cost_nn (a := us) (b := ss) (by omega) f31
  have y1 := cost_ten (a := us) (b := ss) (by omega)
  have ym := (fr_of hcm hc1 (by omega)).2
  have y2 := cost_nn (a := midS ss ts us) (b := ss) (by omega) ym
  have y3 := cost_ten (a := midS ss ts us) (b := ss) (by omega)
  have y4 := cost_nn (a := midS ss ts us) (b := ts) (by omega) (fr_of hcm hc2 (by omega)).2
  have y5 := cost_ten (a := midS ss ts us) (b := ts) (by omega)
  have y6 := cost_nn (a := midS ss ts us) (b := us) (by omega) (fr_of hcm hcu (by omega)).2
  have y7 := cost_ten (a := midS ss ts us) (b := us) (by omega)
  have z0 : costL ss ss = 0 := (cost_zero (a := ss) (b := ss) rfl (fr_of hc1 hc1 rfl).2).2 rfl
  have hcsr := cardOk_rev hc1
  have hlsr : ss.reverse.length = ss.length := List.length_reverse
  have z1 := cost_nn (a := ss) (b := ss.reverse) hlsr.symm (fr_of hc1 hcsr hlsr.symm).2
  have z2 := cost_nn (a := ss) (b := ts.reverse) (by omega) (fr_of hc1 hcr (by omega)).2
  have z3 : costL ts ss.reverse = costL ss ts.reverse := by
    have q1 := cost_comm (a := ts) (b := ss.reverse) (by omega) (fr_of hc2 hcsr (by omega)).2
    have q2 := cost_rev (a := ss.reverse) (b := ts) (by omega)
    rw [List.reverse_reverse] at q2
    rw [q1, ← q2]
  have e1 := side_val hc1 hc2 (by omega)
  have e2 := side_val hc1 hcsr (by omega)
  have e3 := side_val hc2 hc1 (by omega)
  rw [List.reverse_reverse, z0, Int.min_eq_right z1] at e2
  rw [x2, z3] at e3
  obtain ⟨SV, hSV⟩ : ∃ x, min (costL ss ts) (costL ss ts.reverse) = x := ⟨_, rfl⟩
  have hS0 : 0 ≤ SV := by omega
  have hS1 : SV ≤ costL ss ts := by omega
  rw [hSV] at e1 e3
  have v1 := cost_val hc1 hc2 (by omega)
  have v2 := cost_val hc2 hc1 (by omega)
  have v3 := cost_val hc1 hcu (by omega)
  have v4 := cost_val hcu hc2 (by omega)
  have v5 := cost_val hcm hc1 (by omega)
  have v6 := cost_val hcm hc2 (by omega)
  have v7 := cost_val hcm hcu (by omega)
  have v8 := cost_val hcu hc1 (by omega)
  have v9 := cost_val hc1 hc1 rfl
  rw [x2] at v2
  rw [z0] at v9
  have hsm : sameCard (d : Int) f d f ss ts = decide (costL ss ts = 0) := by
    cases q : sameCard (d : Int) f d f ss ts
    · refine (decide_eq_false fun h => ?_).symm
      rw [sameCard_iff.2 ⟨rfl, rfl, x3.1 h⟩] at q
      cases q
    · exact (decide_eq_true (x3.2 (sameCard_iff.1 q).2.2)).symm
  have kSh : ∀ W : World, Strs W W.heap.size A1 n ss → Strs W W.heap.size A2 n ts → Calls Try.prog 26 #[.agg #[.int .i64 d, .int .i64 f, .slice A1 n c1], .agg #[.int .i64 d, .int .i64 f, .slice A2 n c2]] W fun e w' => ∃ V : Int, e = .returned (.int .i64 V) ∧ 0 ≤ V ∧ V ≤ costL ss ts ∧ Below W.heap.size W w' := fun W h1 h2 => i_ShiftDistance d f W.heap.size A1 A2 n c1 c2 ss ts W h1 h2 (Nat.le_refl _) hc1 hc2
  have kSb : ∀ W : World, Strs W W.heap.size A1 n ss → Calls Try.prog 26 #[.agg #[.int .i64 d, .int .i64 f, .slice A1 n c1], .agg #[.int .i64 d, .int .i64 f, .slice A1 n c1]] W fun e w' => e = .returned (.int .i64 0) ∧ Below W.heap.size W w' := by
    intro W h1
    refine (i_ShiftDistance d f W.heap.size A1 A1 n c1 c1 ss ss W h1 h1 (Nat.le_refl _) hc1 hc1).mono ?_
    rintro e w' ⟨V, rfl, q0, q1, hb⟩
    rw [z0] at q1
    obtain rfl : V = 0 := by omega
    exact ⟨rfl, hb⟩
  have kD : ∀ (vs xs : List ByteArray) (N : Int), costOf (d : Int) f d f vs xs = N → ∀ (W : World) (P Q : Option Addr) (p q : Nat), Strs W W.heap.size P n vs → Strs W W.heap.size Q n xs → Calls Try.prog 23 #[.agg #[.int .i64 d, .int .i64 f, .slice P n p], .agg #[.int .i64 d, .int .i64 f, .slice Q n q]] W fun e w' => e = .returned (.int .i64 N) ∧ Below W.heap.size W w' := by
    intro vs xs N h W P Q p q h1 h2
    have := i_CardDistance d f d f W.heap.size P Q n p n q vs xs W h1 h2 (Nat.le_refl _)
    rw [h] at this
    exact this
  have kSi : ∀ (vs xs : List ByteArray) (N : Int), sideOf (d : Int) f d f vs xs = N → ∀ (W : World) (P Q : Option Addr) (p q : Nat), Strs W W.heap.size P n vs → Strs W W.heap.size Q n xs → Calls Try.prog 25 #[.agg #[.int .i64 d, .int .i64 f, .slice P n p], .agg #[.int .i64 d, .int .i64 f, .slice Q n q]] W fun e w' => e = .returned (.int .i64 N) ∧ Below W.heap.size W w' := by
    intro vs xs N h W P Q p q h1 h2
    have := i_SideDistance d f d f W.heap.size P Q n p n q vs xs W h1 h2 (Nat.le_refl _)
    rw [h] at this
    exact this
  have kMid : ∀ (W : World) (P : Option Addr) (p : Nat), Strs W W.heap.size A1 n ss → Strs W W.heap.size A2 n ts → Strs W W.heap.size P n us → Calls Try.prog 24 #[.agg #[.int .i64 d, .int .i64 f, .slice A1 n c1], .agg #[.int .i64 d, .int .i64 f, .slice A2 n c2], .agg #[.int .i64 d, .int .i64 f, .slice P n p]] W fun e w' => ∃ Am cm, e = .returned (.tuple #[.agg #[.int .i64 d, .int .i64 f, .slice Am n cm], .bool true]) ∧ Strs w' w'.heap.size Am n (midS ss ts us) ∧ Below W.heap.size W w' := fun W P p h1 h2 h3 => i_MiddleCard d f W.heap.size A1 A2 P n c1 c2 p ss ts us W h1 h2 h3 (Nat.le_refl _) hc1 hc2 hcu
  have kSm : ∀ W : World, Strs W W.heap.size A1 n ss → Strs W W.heap.size A2 n ts → Calls Try.prog 28 #[.agg #[.int .i64 d, .int .i64 f, .slice A1 n c1], .agg #[.int .i64 d, .int .i64 f, .slice A2 n c2]] W fun e w' => e = .returned (.bool (decide (costL ss ts = 0))) ∧ Below W.heap.size W w' := by
    intro W h1 h2
    have q := s_SameCard d f d f W.heap.size A1 A2 n c1 n c2 ss ts W h1 h2 (Nat.le_refl _)
    rw [hsm] at q
    exact q
  have kMr : ∀ (vs : List ByteArray) (hv : cardOk (d : Int) f vs = true) (W : World) (P : Option Addr) (p B : Nat), Strs W B P n vs → B ≤ W.heap.size → Calls Try.prog 22 #[.agg #[.int .i64 d, .int .i64 f, .slice P n p]] W fun e w' => ∃ A8 c8, e = .returned (.agg #[.int .i64 d, .int .i64 f, .slice A8 n c8]) ∧ w'.ownsRow W.heap.size 9 1 (.slice A8 n c8) n (vs.reverse.map Value.string) ∧ Strs w' w'.heap.size A8 n vs.reverse ∧ Below W.heap.size W w' := by
    intro vs hv W P p B h hB
    have hm : mirrorRes (d : Int) f vs = ((d : Int), (f : Int), vs.reverse) := by unfold mirrorRes; rw [hv]; rfl
    have hl := h.len
    have hz := h.sb
    have hn9 := h.nb
    refine (s_MirrorCard d f B P n p vs W h hB).mono ?_
    rw [hm]
    rintro e w' ⟨A8, c8, h1, h2, h3⟩
    simp only [List.length_reverse, hl] at h1 h2
    exact ⟨A8, c8, h1, h2, strs_of_own h2 hn9 (fun s hs => hz s (List.mem_reverse.1 hs)), h3⟩
  have kUp : ∀ (W : World) (P : Option Addr) (p : Nat), Strs W W.heap.size A1 n ss → Strs W W.heap.size P n ts.reverse → Calls Try.prog 21 #[.agg #[.int .i64 d, .int .i64 f, .slice A1 n c1], .agg #[.int .i64 d, .int .i64 f, .slice P n p]] W fun e w' => ∃ A3 c3, e = .returned (.tuple #[.agg #[.int .i64 d, .int .i64 f, .slice A3 n c3], .bool true]) ∧ w'.ownsRow W.heap.size 9 1 (.slice A3 n c3) n (us.map Value.string) ∧ Below W.heap.size W w' := by
    intro W P p h1 h2
    have h1' : Strs W W.heap.size A1 ss.length ss := by rw [hl1]; exact h1
    have h2' : Strs W W.heap.size P ss.length ts.reverse := by rw [hl1]; exact h2
    have q := s_UpperCard_yes d f A1 P c1 p ss ts.reverse W h1' h2' hc1 hcr
    rw [hl1, hus] at q
    exact q
  have huz : ∀ x ∈ us, x.size ≤ 16777216 := fun x hx => by have := (card_bounds hcu).2.2 x hx; omega
  have hrz : ∀ x ∈ ts.reverse, x.size ≤ 16777216 := fun x hx => by have := (card_bounds hcr).2.2 x hx; omega
  have kNc : ∀ (W : World) (P L : Option Addr) (p l : Nat), Strs W W.heap.size A1 n ss → Strs W W.heap.size A2 n ts → Strs W W.heap.size P n us → Reads W W.heap.size 3 L 3 [.int .i64 d, .int .i64 f, .slice A2 n c2, .int .i64 d, .int .i64 f, .slice P n p, .int .i64 d, .int .i64 f, .slice A1 n c1] → Calls Try.prog 27 #[.slice L 3 l, .agg #[.int .i64 d, .int .i64 f, .slice A1 n c1]] W fun e w' => ∃ K : Int, e = .returned (.int .i64 K) ∧ 0 ≤ K ∧ K ≤ 2 ∧ (K = 0 ↔ costL ss ts = 0) ∧ Below W.heap.size W w' := by
    intro W P L p l h1 h2 h3 hR
    refine i_NearestCard d f W.heap.size L l _ A1 n c1 ss (costL ss ts) W (Nat.le_refl _) hR h1 x0 x1 fun j hj => ?_
    match j, hj with
    | 0, _ => exact ⟨A2, c2, ts, h2, rfl, rfl, rfl, by rw [v2]; exact x0, by rw [v2]; exact x1, fun _ => v2, fun q => by omega⟩
    | 1, _ => exact ⟨P, p, us, h3, rfl, rfl, rfl, by rw [v8]; exact y0, by rw [v8]; exact y1, fun q => by omega, fun q => by omega⟩
    | 2, _ => exact ⟨A1, c1, ss, h1, rfl, rfl, rfl, by rw [v9]; omega, by rw [v9]; omega, fun q => by omega, fun _ => v9⟩
  have kD1 := kD ss ts _ v1
  have kD2 := kD ts ss _ v2
  have kD3 := kD ss us _ v3
  have kD4 := kD us ts _ v4
  have kD5 := kD (midS ss ts us) ss _ v5
  have kD6 := kD (midS ss ts us) ts _ v6
  have kD7 := kD (midS ss ts us) us _ v7
  have kI1 := kSi ss ts _ e1
  have kI2 := kSi ss ss.reverse _ e2
  have kI3 := kSi ts ss _ e3
  have kM1 := kMr ts hc2
  have kM2 := kMr ss hc1
  obtain ⟨N, hN⟩ : ∃ x, costL ss ts = x := ⟨_, rfl⟩
  obtain ⟨P1, hP1⟩ : ∃ x, costL ss us = x := ⟨_, rfl⟩
  obtain ⟨P2, hP2⟩ : ∃ x, costL us ts = x := ⟨_, rfl⟩
  obtain ⟨Q1, hQ1⟩ : ∃ x, costL (midS ss ts us) ss = x := ⟨_, rfl⟩
  obtain ⟨Q2, hQ2⟩ : ∃ x, costL (midS ss ts us) ts = x := ⟨_, rfl⟩
  obtain ⟨Q3, hQ3⟩ : ∃ x, costL (midS ss ts us) us = x := ⟨_, rfl⟩
  obtain ⟨mm, hmm⟩ : ∃ x, midS ss ts us = x := ⟨_, rfl⟩
  obtain ⟨x5a, x5b⟩ := x5
  rw [hN] at kD1 kD2 kSm kNc kSh x0 x1 x4 x5a hS1
  rw [hP1] at kD3 x4 x6 x7 x5b
  rw [hP2] at kD4 x4 x8 x9
  rw [hQ1] at kD5 y2 y3 x5a x5b
  rw [hQ2] at kD6 y4 y5 x5a
  rw [hQ3] at kD7 y6 y7 x5b
  rw [hmm] at kD5 kD6 kD7 kMid
  have HD1 := hide kD1
  have HD2 := hide kD2
  have HD3 := hide kD3
  have HD4 := hide kD4
  have HD5 := hide kD5
  have HD6 := hide kD6
  have HD7 := hide kD7
  have HI1 := hide kI1
  have HI2 := hide kI2
  have HI3 := hide kI3
  have HM1 := hide kM1
  have HM2 := hide kM2
  have HSh := hide kSh
  have HSb := hide kSb
  have HMid := hide kMid
  have HSm := hide kSm
  have HUp := hide kUp
  have HNc := hide kNc
  have HUZ := hide huz
  have HLR : Hid (ts.reverse.length = n) := by unfold Hid; rw [hlr]; exact hl1
  have HLU := Lib.hid hlu
  have HRZ := hide hrz
  clear kD kSi kMr kD1 kD2 kD3 kD4 kD5 kD6 kD7 kI1 kI2 kI3 kM1 kM2 kSh kSb kMid kSm kUp kNc huz hrz hsm v1 v2 v3 v4 v5 v6 v7 v8 v9 e1 e2 e3 x2 x3 z0 z1 z2 z3 hN hP1 hP2 hQ1 hQ2 hQ3 hmm hSV y0 y1 ym f12 f21 f13 f32 f31 f23 hcm hlm hcu hlu hus hcr hlr hcsr hlsr hc1 hc2 hl1 hl2 hss hts
  go_wp2_with fail
  have kB_w2 := blk_alloc (blk_new w1 (.cells #[.int .i64 d, .int .i64 f, .slice A1 n c1] 26)) (.cells #[.int .i64 d, .int .i64 f, .slice A2 n c2] 26)
  have kC_w2 := blk_new_at (w1.alloc (.cells #[.int .i64 d, .int .i64 f, .slice A1 n c1] 26)) (.cells #[.int .i64 d, .int .i64 f, .slice A2 n c2] 26) (k := w1.heap.size + 1) (by simp)
  have hb_w2 : Below w1.heap.size w1 ((w1.alloc (.cells #[.int .i64 d, .int .i64 f, .slice A1 n c1] 26)).alloc (.cells #[.int .i64 d, .int .i64 f, .slice A2 n c2] 26)) := bel
  have hz2 : w1.heap.size + 1 < ((w1.alloc (.cells #[.int .i64 d, .int .i64 f, .slice A1 n c1] 26)).alloc (.cells #[.int .i64 d, .int .i64 f, .slice A2 n c2] 26)).heap.size := by simp
  generalize (w1.alloc (.cells #[.int .i64 d, .int .i64 f, .slice A1 n c1] 26)).alloc (.cells #[.int .i64 d, .int .i64 f, .slice A2 n c2] 26) = w2 at *
  have gB_w2 := hb_w2
  have gC_w2 := hb_w2
  have hw12 := hb_w2.size
  have SB2 := SB.below hb_w2
  have SC2 := SC.below hb_w2
  have hn9 : n ≤ 16777216 := by omega
  obtain ⟨hB0, hB1, hB2, hBl⟩ := blk3 kB_w2
  obtain ⟨hC0, hC1, hC2, hCl⟩ := blk3 kC_w2
  go_cut [5, 6] (fun s5 s6 wx => ∃ (g : Nat) (A9 : Option Addr) (c9 : Nat), s5 = .pointer (some ⟨g, 0, none⟩) ∧ s6 = .bool true ∧ wx.heap[g]? = some (.cells #[.int .i64 d, .int .i64 f, .slice A9 n c9] 26 (0, 0)) ∧ wx.ownsRow w2.heap.size 9 1 (.slice A9 n c9) n (us.map Value.string) ∧ w2.heap.size ≤ g ∧ Below w2.heap.size w2 wx)
  case first =>
    go_region_held3 (fun W => (∀ b o, b < w2.heap.size → W.cell? ⟨b, o, none⟩ = (w2).cell? ⟨b, o, none⟩) ∧ (∀ b o, b < w2.heap.size → W.frozen? ⟨b, o, none⟩ = (w2).frozen? ⟨b, o, none⟩) ∧ Below (w2.heap.size) (w2) W) (exact keep_of bel) (first | (go_at_call 22; have hq := (‹_ ∧ _ ∧ Below _ _ _›).2.2; refine (HM1.out _ _ _ w1.heap.size (SC2.below (hq.mono hw12)) (Nat.le_trans hw12 hq.size)).mono ?_; rintro e w8 ⟨A8, c8, rfl, ho8, S8, hb8⟩; have hqs8 := hq.size; have hbs8 := hb8.size; (try simp at hqs8); (try simp at hbs8); (have ho8 := own_wideb (b := w2.heap.size) ho8 (by first | exact hq.size | omega)); obtain ⟨hcb8, hfb8⟩ := bcell hb8; (try (have hzl0 : w2.heap.size < w8.heap.size := (by omega)))) | (go_at_call 21; have hq := (‹_ ∧ _ ∧ Below _ _ _›).2.2; refine (HUp.out _ A8 c8 ?_ ?_).mono ?_; exact (SB2.below (hq.mono hw12)).more (Nat.le_trans hw12 hq.size); (refine reads_strs (base := w2.heap.size) (c := c8) ?_ HLR.out hn9 HRZ.out; (focus ((repeat (first | (with_reducible exact ho8) | (with_reducible refine World.ownsRow.drew ?_) | (with_reducible refine World.ownsRow.alloc ?_ _))); (first | done | fail)))); rintro e w9 ⟨A3, c3, rfl, ho3, hb3⟩; have hqs3 := hq.size; have hbs3 := hb3.size; (try simp at hqs3); (try simp at hbs3); (have ho3 := own_wideb (b := w2.heap.size) ho3 (by first | exact hq.size | omega)); obtain ⟨hcb3, hfb3⟩ := bcell hb3; (try (have hzl1 : w2.heap.size < w9.heap.size := (by omega))); (try (have hzl2 : w8.heap.size < w9.heap.size := (by omega)))))
    all_goals (go_wp2_with fail)
    all_goals (go_meet)
    all_goals (
      refine ⟨_, A3, c3, rfl, rfl, ?_⟩
      first
        | ((with_reducible refine leafQN ?_ ?_ ?_ ?_); (first | exact bel); (focus ((repeat (first | (with_reducible exact ho3) | (with_reducible refine World.ownsRow.drew ?_) | (with_reducible refine World.ownsRow.alloc ?_ _))); (first | done | fail))); (first | rfl | (simp; first | done | fail)); (first | omega | (simp; first | done | omega)))
        | ((with_reducible apply leafQ); (case hk => (focus ((repeat (first | (with_reducible exact blk_new_at _ _ (by first | rfl | (simp; first | done | fail))) | (with_reducible refine blk_next ?_ hb3) | (with_reducible refine blk_next ?_ hb8) | (with_reducible refine blk_drew ?_) | (with_reducible refine blk_alloc ?_ _))); (first | done | fail)))); (case ho => (focus ((repeat (first | (with_reducible exact ho3) | (with_reducible refine World.ownsRow.drew ?_) | (with_reducible refine World.ownsRow.alloc ?_ _))); (first | done | fail)))); (case hb => exact bel); (case hg => first | omega | (simp; first | done | omega))))
  obtain ⟨g9, A9, c9, rfl, rfl, hk9, ho9, hg9, hb9⟩ := hcut
  obtain ⟨w3, hwc⟩ : ∃ W, W = wc := ⟨_, rfl⟩
  subst hwc
  have SD := reads_strs ho9 HLU.out hn9 HUZ.out
  have kD_w3 := hk9
  have gD_w3 := Below.refl w3.heap.size w3
  clear ho9 hk9 SB2 SC2
  clear hB0 hB1 hB2 hBl hC0 hC1 hC2 hCl
  have kB_w3 := blk_next kB_w2 hb9
  have gB_w3 := gB_w2.trans (hb9.mono gB_w2.size)
  clear kB_w2 gB_w2
  have kC_w3 := blk_next kC_w2 hb9
  have gC_w3 := gC_w2.trans (hb9.mono gC_w2.size)
  clear kC_w2 gC_w2
  obtain ⟨hB0, hB1, hB2, hBl⟩ := blk3 kB_w3
  obtain ⟨hC0, hC1, hC2, hCl⟩ := blk3 kC_w3
  go_wp2_with fail
  clear hB0 hB1 hB2 hBl hC0 hC1 hC2 hCl
  refine (HD1.out w3 A1 A2 c1 c2 ((SB.below gB_w3).more gB_w3.size) ((SC.below gC_w3).more gC_w3.size)).mono ?_
  rintro e w4 ⟨rfl, hb_w4⟩
  have kB_w4 := blk_next kB_w3 hb_w4
  have gB_w4 := gB_w3.trans (hb_w4.mono gB_w3.size)
  clear kB_w3 gB_w3
  have kC_w4 := blk_next kC_w3 hb_w4
  have gC_w4 := gC_w3.trans (hb_w4.mono gC_w3.size)
  clear kC_w3 gC_w3
  have kD_w4 := blk_next kD_w3 hb_w4
  have gD_w4 := gD_w3.trans (hb_w4.mono gD_w3.size)
  clear kD_w3 gD_w3
  obtain ⟨hB0, hB1, hB2, hBl⟩ := blk3 kB_w4
  obtain ⟨hC0, hC1, hC2, hCl⟩ := blk3 kC_w4
  obtain ⟨hD0, hD1, hD2, hDl⟩ := blk3 kD_w4
  go_wp2_with fail
  clear hB0 hB1 hB2 hBl hC0 hC1 hC2 hCl hD0 hD1 hD2 hDl
  refine (HMid.out w4 A9 c9 ((SB.below gB_w4).more gB_w4.size) ((SC.below gC_w4).more gC_w4.size) ((SD.below gD_w4).more gD_w4.size)).mono ?_
  rintro e w5 ⟨Am, cm, rfl, SM, hb_w5⟩
  have kB_w5 := blk_next kB_w4 hb_w5
  have gB_w5 := gB_w4.trans (hb_w5.mono gB_w4.size)
  clear kB_w4 gB_w4
  have kC_w5 := blk_next kC_w4 hb_w5
  have gC_w5 := gC_w4.trans (hb_w5.mono gC_w4.size)
  clear kC_w4 gC_w4
  have kD_w5 := blk_next kD_w4 hb_w5
  have gD_w5 := gD_w4.trans (hb_w5.mono gD_w4.size)
  clear kD_w4 gD_w4
  obtain ⟨hB0, hB1, hB2, hBl⟩ := blk3 kB_w5
  obtain ⟨hC0, hC1, hC2, hCl⟩ := blk3 kC_w5
  go_wp2_with fail
  clear hB0 hB1 hB2 hBl hC0 hC1 hC2 hCl
  have kM_w6 := blk_new w5 (.cells #[.int .i64 d, .int .i64 f, .slice Am n cm] 26)
  have hb_w6 : Below w5.heap.size w5 (w5.alloc (.cells #[.int .i64 d, .int .i64 f, .slice Am n cm] 26)) := bel
  have kB_w6 := blk_next kB_w5 hb_w6
  have gB_w6 := gB_w5.trans (hb_w6.mono gB_w5.size)
  clear kB_w5 gB_w5
  have kC_w6 := blk_next kC_w5 hb_w6
  have gC_w6 := gC_w5.trans (hb_w6.mono gC_w5.size)
  clear kC_w5 gC_w5
  have kD_w6 := blk_next kD_w5 hb_w6
  have gD_w6 := gD_w5.trans (hb_w6.mono gD_w5.size)
  clear kD_w5 gD_w5
  have gM_w6 := hb_w6
  generalize (w5.alloc (.cells #[.int .i64 d, .int .i64 f, .slice Am n cm] 26)) = w6 at *
  refine (HI1.out w6 A1 A2 c1 c2 ((SB.below gB_w6).more gB_w6.size) ((SC.below gC_w6).more gC_w6.size)).mono ?_
  rintro e w7 ⟨rfl, hb_w7⟩
  have kB_w7 := blk_next kB_w6 hb_w7
  have gB_w7 := gB_w6.trans (hb_w7.mono gB_w6.size)
  clear kB_w6 gB_w6
  have kC_w7 := blk_next kC_w6 hb_w7
  have gC_w7 := gC_w6.trans (hb_w7.mono gC_w6.size)
  clear kC_w6 gC_w6
  have kD_w7 := blk_next kD_w6 hb_w7
  have gD_w7 := gD_w6.trans (hb_w7.mono gD_w6.size)
  clear kD_w6 gD_w6
  have kM_w7 := blk_next kM_w6 hb_w7
  have gM_w7 := gM_w6.trans (hb_w7.mono gM_w6.size)
  clear kM_w6 gM_w6
  obtain ⟨hB0, hB1, hB2, hBl⟩ := blk3 kB_w7
  obtain ⟨hC0, hC1, hC2, hCl⟩ := blk3 kC_w7
  go_wp2_with fail
  clear hB0 hB1 hB2 hBl hC0 hC1 hC2 hCl
  refine (HSh.out w7 ((SB.below gB_w7).more gB_w7.size) ((SC.below gC_w7).more gC_w7.size)).mono ?_
  rintro e w8 ⟨V, rfl, hV0, hV1, hb_w8⟩
  have kB_w8 := blk_next kB_w7 hb_w8
  have gB_w8 := gB_w7.trans (hb_w8.mono gB_w7.size)
  clear kB_w7 gB_w7
  have kC_w8 := blk_next kC_w7 hb_w8
  have gC_w8 := gC_w7.trans (hb_w8.mono gC_w7.size)
  clear kC_w7 gC_w7
  have kD_w8 := blk_next kD_w7 hb_w8
  have gD_w8 := gD_w7.trans (hb_w8.mono gD_w7.size)
  clear kD_w7 gD_w7
  have kM_w8 := blk_next kM_w7 hb_w8
  have gM_w8 := gM_w7.trans (hb_w8.mono gM_w7.size)
  clear kM_w7 gM_w7
  obtain ⟨hB0, hB1, hB2, hBl⟩ := blk3 kB_w8
  obtain ⟨hC0, hC1, hC2, hCl⟩ := blk3 kC_w8
  obtain ⟨hD0, hD1, hD2, hDl⟩ := blk3 kD_w8
  go_wp2_with fail
  clear hB0 hB1 hB2 hBl hC0 hC1 hC2 hCl hD0 hD1 hD2 hDl
  have hRL := reads_new9 w8 #[.int .i64 d, .int .i64 f, .slice A2 n c2, .int .i64 d, .int .i64 f, .slice A9 n c9, .int .i64 d, .int .i64 f, .slice A1 n c1] 26 3 3 rfl
  have kL_w9 := blk_new w8 (.cells #[.int .i64 d, .int .i64 f, .slice A2 n c2, .int .i64 d, .int .i64 f, .slice A9 n c9, .int .i64 d, .int .i64 f, .slice A1 n c1] 26)
  have hb_w9 : Below w8.heap.size w8 (w8.alloc (.cells #[.int .i64 d, .int .i64 f, .slice A2 n c2, .int .i64 d, .int .i64 f, .slice A9 n c9, .int .i64 d, .int .i64 f, .slice A1 n c1] 26)) := bel
  have kB_w9 := blk_next kB_w8 hb_w9
  have gB_w9 := gB_w8.trans (hb_w9.mono gB_w8.size)
  clear kB_w8 gB_w8
  have kC_w9 := blk_next kC_w8 hb_w9
  have gC_w9 := gC_w8.trans (hb_w9.mono gC_w8.size)
  clear kC_w8 gC_w8
  have kD_w9 := blk_next kD_w8 hb_w9
  have gD_w9 := gD_w8.trans (hb_w9.mono gD_w8.size)
  clear kD_w8 gD_w8
  have kM_w9 := blk_next kM_w8 hb_w9
  have gM_w9 := gM_w8.trans (hb_w9.mono gM_w8.size)
  clear kM_w8 gM_w8
  have gL_w9 := hb_w9
  generalize (w8.alloc (.cells #[.int .i64 d, .int .i64 f, .slice A2 n c2, .int .i64 d, .int .i64 f, .slice A9 n c9, .int .i64 d, .int .i64 f, .slice A1 n c1] 26)) = w9 at *
  have hRs : w8.heap.size + 1 ≤ w9.heap.size := blk_lt kL_w9
  refine (HNc.out w9 A9 (some ⟨w8.heap.size, 0, none⟩) c9 3 ((SB.below gB_w9).more gB_w9.size) ((SC.below gC_w9).more gC_w9.size) ((SD.below gD_w9).more gD_w9.size) (hRL.more hRs)).mono ?_
  rintro e w10 ⟨K, rfl, hK0, hK2, hKN, hb_w10⟩
  have kB_w10 := blk_next kB_w9 hb_w10
  have gB_w10 := gB_w9.trans (hb_w10.mono gB_w9.size)
  clear kB_w9 gB_w9
  have kC_w10 := blk_next kC_w9 hb_w10
  have gC_w10 := gC_w9.trans (hb_w10.mono gC_w9.size)
  clear kC_w9 gC_w9
  have kD_w10 := blk_next kD_w9 hb_w10
  have gD_w10 := gD_w9.trans (hb_w10.mono gD_w9.size)
  clear kD_w9 gD_w9
  have kM_w10 := blk_next kM_w9 hb_w10
  have gM_w10 := gM_w9.trans (hb_w10.mono gM_w9.size)
  clear kM_w9 gM_w9
  have kL_w10 := blk_next kL_w9 hb_w10
  have gL_w10 := gL_w9.trans (hb_w10.mono gL_w9.size)
  clear kL_w9 gL_w9
  clear hRL hRs
  clear kL_w10 gL_w10
  obtain ⟨bz, hbz⟩ : ∃ x, decide (N = 0) = x := ⟨_, rfl⟩
  have hSm2 := HSm.out
  rw [hbz] at hSm2
  have HSm2 := hide hSm2
  have hbz2 : (N == 0) = bz := by rw [← hbz]; rfl
  have hbz3 : (K == 0) = bz := by
    rw [← hbz]
    by_cases q : N = 0
    · rw [decide_eq_true q]; simp [hKN.2 q]
    · rw [decide_eq_false q]; simp; exact fun h => q (hKN.1 h)
  have m1 : ¬ N < 0 := by omega
  have m2 : ¬ P1 + P2 < N := by omega
  have m3 : ¬ SV < 0 := by omega
  have m4 : ¬ N < SV := by omega
  have m5 : ¬ V < 0 := by omega
  have m6 : ¬ N < V := by omega
  have m7 : ¬ K < 0 := by omega
  have m8 : ¬ 2 < K := by omega
  have d1 : decide (N < 0) = false := decide_eq_false m1
  have d2 : decide (P1 + P2 < N) = false := decide_eq_false m2
  have d3 : decide (SV < 0) = false := decide_eq_false m3
  have d4 : decide (N < SV) = false := decide_eq_false m4
  have d5 : decide (V < 0) = false := decide_eq_false m5
  have d6 : decide (N < V) = false := decide_eq_false m6
  have d7 : decide (K < 0) = false := decide_eq_false m7
  have d8 : decide (2 < K) = false := decide_eq_false m8
  have hwP : IntKind.i64.wrap (P1 + P2) = P1 + P2 := w64L (by omega)
  clear hSm2 hbz hKN hV0 hV1
  have YB := ((SB.below gB_w10).more gB_w10.size)
  have YC := ((SC.below gC_w10).more gC_w10.size)
  have YD := ((SD.below gD_w10).more gD_w10.size)
  have YM := ((SM.below gM_w10).more gM_w10.size)
  obtain ⟨hB0, hB1, hB2, hBl⟩ := blk3 kB_w10
  obtain ⟨hC0, hC1, hC2, hCl⟩ := blk3 kC_w10
  obtain ⟨hD0, hD1, hD2, hDl⟩ := blk3 kD_w10
  have tok1 : True := trivial
  go_wp2_with fail
  try dsimp only [List.append]
  go_cut [114] (fun s wx => s = .bool false ∧ Below w10.heap.size w10 wx)
  case first =>
    cases bz <;> skip
    all_goals
      go_region_held3 (fun W => (∀ p : Addr, p.block < w10.heap.size → W.cell? p = (w10).cell? p) ∧ (∀ p : Addr, p.block < w10.heap.size → W.frozen? p = (w10).frozen? p) ∧ Below (w10.heap.size) (w10) W) (exact keep_ofP bel) (first | (go_at_call 23; have _t := tok1; clear _t tok1; have hq := (‹_ ∧ _ ∧ Below _ _ _›).2.2; have hqz := hq.size; refine (HD2.out _ A2 A1 c2 c1 ((YC.below hq).more hqz) ((YB.below hq).more hqz)).mono ?_; rintro e v1 ⟨rfl, hv1⟩; have tok2 : True := trivial; have hqs1 := hq.size; have hs1 := hv1.size; (try simp at hqs1); (try simp at hs1)) | (go_at_call 28; have _t := tok2; clear _t tok2; have hq := (‹_ ∧ _ ∧ Below _ _ _›).2.2; have hqz := hq.size; refine (HSm2.out _ ((YB.below hq).more hqz) ((YC.below hq).more hqz)).mono ?_; rintro e v2 ⟨rfl, hv2⟩; have tok3 : True := trivial; have hqs2 := hq.size; have hs2 := hv2.size; (try simp at hqs2); (try simp at hs2)) | (go_at_call 23; have _t := tok3; clear _t tok3; have hq := (‹_ ∧ _ ∧ Below _ _ _›).2.2; have hqz := hq.size; refine (HD3.out _ A1 A9 c1 c9 ((YB.below hq).more hqz) ((YD.below hq).more hqz)).mono ?_; rintro e v3 ⟨rfl, hv3⟩; have tok4 : True := trivial; have hqs3 := hq.size; have hs3 := hv3.size; (try simp at hqs3); (try simp at hs3)) | (go_at_call 23; have _t := tok4; clear _t tok4; have hq := (‹_ ∧ _ ∧ Below _ _ _›).2.2; have hqz := hq.size; refine (HD4.out _ A9 A2 c9 c2 ((YD.below hq).more hqz) ((YC.below hq).more hqz)).mono ?_; rintro e v4 ⟨rfl, hv4⟩; have tok5 : True := trivial; have hqs4 := hq.size; have hs4 := hv4.size; (try simp at hqs4); (try simp at hs4)) | (go_at_call 22; have _t := tok5; clear _t tok5; have hq := (‹_ ∧ _ ∧ Below _ _ _›).2.2; have hqz := hq.size; refine (HM2.out _ _ _ _ ((YB.below hq).more hqz) (Nat.le_refl _)).mono ?_; rintro e v5 ⟨A8, c8, rfl, _, S8, hv5⟩; have tok6 : True := trivial; have hqs5 := hq.size; have hs5 := hv5.size; (try simp at hqs5); (try simp at hs5)) | (go_at_call 25; have _t := tok6; clear _t tok6; have hq := (‹_ ∧ _ ∧ Below _ _ _›).2.2; have hqz := hq.size; refine (HI2.out _ A1 A8 c1 c8 ((YB.below hq).more hqz) S8).mono ?_; rintro e v6 ⟨rfl, hv6⟩; have tok7 : True := trivial; have hqs6 := hq.size; have hs6 := hv6.size; (try simp at hqs6); (try simp at hs6)))
    all_goals (go_wp2_with fail)
    all_goals (go_meet)
    all_goals (exact ⟨rfl, (‹_ ∧ _ ∧ Below _ _ _›).2.2⟩)
  clear hB0 hB1 hB2 hBl hC0 hC1 hC2 hCl hD0 hD1 hD2 hDl
  obtain ⟨rfl, hbc⟩ := hcut
  obtain ⟨w11, hwc⟩ : ∃ Q9 : World, Q9 = wc := ⟨_, rfl⟩
  subst hwc
  clear YB YC YD YM d1 d2 d3 d4 d5 d6 d7 d8 m1 m2 m3 m4 m5 m6 m7 m8 hwP tok1
  have kB_w11 := blk_next kB_w10 hbc
  have gB_w11 := gB_w10.trans (hbc.mono gB_w10.size)
  clear kB_w10 gB_w10
  have kC_w11 := blk_next kC_w10 hbc
  have gC_w11 := gC_w10.trans (hbc.mono gC_w10.size)
  clear kC_w10 gC_w10
  have kD_w11 := blk_next kD_w10 hbc
  have gD_w11 := gD_w10.trans (hbc.mono gD_w10.size)
  clear kD_w10 gD_w10
  have kM_w11 := blk_next kM_w10 hbc
  have gM_w11 := gM_w10.trans (hbc.mono gM_w10.size)
  clear kM_w10 gM_w10
  have hwQ : IntKind.i64.wrap (Q1 + Q2) = N := by rw [x5a]; exact w64L (by omega)
  have hbW := fun d_ os => below_regrown w11 d_ os
  have z1 := hide (show ∀ d_ os, Calls Try.prog 23 #[.agg #[.int .i64 d, .int .i64 f, .slice Am n cm], .agg #[.int .i64 d, .int .i64 f, .slice A1 n c1]] (Go.Sort.grow (redrawn w11 d_) os) fun e w'' => e = .returned (.int .i64 Q1) ∧ ∃ p : Regrown, w'' = Go.Sort.grow (redrawn w11 p.d) p.os from fun d_ os => Calls.regrown_of (HD5.out _ Am A1 cm c1 ((((SM.below gM_w11).more gM_w11.size).below (hbW d_ os)).more (hbW d_ os).size) ((((SB.below gB_w11).more gB_w11.size).below (hbW d_ os)).more (hbW d_ os).size)))
  have z2 := hide (show ∀ d_ os, Calls Try.prog 23 #[.agg #[.int .i64 d, .int .i64 f, .slice Am n cm], .agg #[.int .i64 d, .int .i64 f, .slice A2 n c2]] (Go.Sort.grow (redrawn w11 d_) os) fun e w'' => e = .returned (.int .i64 Q2) ∧ ∃ p : Regrown, w'' = Go.Sort.grow (redrawn w11 p.d) p.os from fun d_ os => Calls.regrown_of (HD6.out _ Am A2 cm c2 ((((SM.below gM_w11).more gM_w11.size).below (hbW d_ os)).more (hbW d_ os).size) ((((SC.below gC_w11).more gC_w11.size).below (hbW d_ os)).more (hbW d_ os).size)))
  obtain ⟨hB0, hB1, hB2, hBl⟩ := blk3 kB_w11
  have rB0 := cell_regrown hB0
  have rB1 := cell_regrown hB1
  have rB2 := cell_regrown hB2
  obtain ⟨hC0, hC1, hC2, hCl⟩ := blk3 kC_w11
  have rC0 := cell_regrown hC0
  have rC1 := cell_regrown hC1
  have rC2 := cell_regrown hC2
  obtain ⟨hD0, hD1, hD2, hDl⟩ := blk3 kD_w11
  have rD0 := cell_regrown hD0
  have rD1 := cell_regrown hD1
  have rD2 := cell_regrown hD2
  obtain ⟨hM0, hM1, hM2, hMl⟩ := blk3 kM_w11
  have rM0 := cell_regrown hM0
  have rM1 := cell_regrown hM1
  have rM2 := cell_regrown hM2
  skip
  go_wp2_with fail
  refine wp_region_quiet_below (by kernel_rfl) (lexB_of (by kernel_rfl)) ?_
  try dsimp only [List.append]
  repeat (go_big_quiet_step (first | (go_at_call 23; with_reducible exact z1.out _ _) | (go_at_call 23; with_reducible exact z2.out _ _)))
  refine wpQuiet_nil ?_
  intro _ hw'
  obtain ⟨⟨dq, osq⟩, hw''⟩ := hw'
  subst hw''
  clear rB0 rB1 rB2 hB0 hB1 hB2 hBl rC0 rC1 rC2 hC0 hC1 hC2 hCl rD0 rD1 rD2 hD0 hD1 hD2 hDl rM0 rM1 rM2 hM0 hM1 hM2 hMl
  have hbg := below_regrown w11 dq osq
  generalize Go.Sort.grow (redrawn w11 dq) osq = w12 at *
  clear hbW z1 z2
  have kB_w12 := blk_next kB_w11 hbg
  have gB_w12 := gB_w11.trans (hbg.mono gB_w11.size)
  clear kB_w11 gB_w11
  have kC_w12 := blk_next kC_w11 hbg
  have gC_w12 := gC_w11.trans (hbg.mono gC_w11.size)
  clear kC_w11 gC_w11
  have kD_w12 := blk_next kD_w11 hbg
  have gD_w12 := gD_w11.trans (hbg.mono gD_w11.size)
  clear kD_w11 gD_w11
  have kM_w12 := blk_next kM_w11 hbg
  have gM_w12 := gM_w11.trans (hbg.mono gM_w11.size)
  clear kM_w11 gM_w11
  try rw [hwQ]
  have hwR : IntKind.i64.wrap (Q3 + Q1) = P1 := by rw [x5b]; exact w64L (by omega)
  cases bz <;> skip
  all_goals
    have hbW := fun d_ os => below_regrown w12 d_ os
    have z1 := hide (show ∀ d_ os, Calls Try.prog 23 #[.agg #[.int .i64 d, .int .i64 f, .slice Am n cm], .agg #[.int .i64 d, .int .i64 f, .slice A9 n c9]] (Go.Sort.grow (redrawn w12 d_) os) fun e w'' => e = .returned (.int .i64 Q3) ∧ ∃ p : Regrown, w'' = Go.Sort.grow (redrawn w12 p.d) p.os from fun d_ os => Calls.regrown_of (HD7.out _ Am A9 cm c9 ((((SM.below gM_w12).more gM_w12.size).below (hbW d_ os)).more (hbW d_ os).size) ((((SD.below gD_w12).more gD_w12.size).below (hbW d_ os)).more (hbW d_ os).size)))
    have z2 := hide (show ∀ d_ os, Calls Try.prog 23 #[.agg #[.int .i64 d, .int .i64 f, .slice Am n cm], .agg #[.int .i64 d, .int .i64 f, .slice A1 n c1]] (Go.Sort.grow (redrawn w12 d_) os) fun e w'' => e = .returned (.int .i64 Q1) ∧ ∃ p : Regrown, w'' = Go.Sort.grow (redrawn w12 p.d) p.os from fun d_ os => Calls.regrown_of (HD5.out _ Am A1 cm c1 ((((SM.below gM_w12).more gM_w12.size).below (hbW d_ os)).more (hbW d_ os).size) ((((SB.below gB_w12).more gB_w12.size).below (hbW d_ os)).more (hbW d_ os).size)))
    have z3 := hide (show ∀ d_ os, Calls Try.prog 23 #[.agg #[.int .i64 d, .int .i64 f, .slice A1 n c1], .agg #[.int .i64 d, .int .i64 f, .slice A9 n c9]] (Go.Sort.grow (redrawn w12 d_) os) fun e w'' => e = .returned (.int .i64 P1) ∧ ∃ p : Regrown, w'' = Go.Sort.grow (redrawn w12 p.d) p.os from fun d_ os => Calls.regrown_of (HD3.out _ A1 A9 c1 c9 ((((SB.below gB_w12).more gB_w12.size).below (hbW d_ os)).more (hbW d_ os).size) ((((SD.below gD_w12).more gD_w12.size).below (hbW d_ os)).more (hbW d_ os).size)))
    have z4 := hide (show ∀ d_ os, Calls Try.prog 26 #[.agg #[.int .i64 d, .int .i64 f, .slice A1 n c1], .agg #[.int .i64 d, .int .i64 f, .slice A1 n c1]] (Go.Sort.grow (redrawn w12 d_) os) fun e w'' => e = .returned (.int .i64 0) ∧ ∃ p : Regrown, w'' = Go.Sort.grow (redrawn w12 p.d) p.os from fun d_ os => Calls.regrown_of (HSb.out _ ((((SB.below gB_w12).more gB_w12.size).below (hbW d_ os)).more (hbW d_ os).size)))
    have z5 := hide (show ∀ d_ os, Calls Try.prog 25 #[.agg #[.int .i64 d, .int .i64 f, .slice A2 n c2], .agg #[.int .i64 d, .int .i64 f, .slice A1 n c1]] (Go.Sort.grow (redrawn w12 d_) os) fun e w'' => e = .returned (.int .i64 SV) ∧ ∃ p : Regrown, w'' = Go.Sort.grow (redrawn w12 p.d) p.os from fun d_ os => Calls.regrown_of (HI3.out _ A2 A1 c2 c1 ((((SC.below gC_w12).more gC_w12.size).below (hbW d_ os)).more (hbW d_ os).size) ((((SB.below gB_w12).more gB_w12.size).below (hbW d_ os)).more (hbW d_ os).size)))
    obtain ⟨hB0, hB1, hB2, hBl⟩ := blk3 kB_w12
    have rB0 := cell_regrown hB0
    have rB1 := cell_regrown hB1
    have rB2 := cell_regrown hB2
    obtain ⟨hC0, hC1, hC2, hCl⟩ := blk3 kC_w12
    have rC0 := cell_regrown hC0
    have rC1 := cell_regrown hC1
    have rC2 := cell_regrown hC2
    obtain ⟨hD0, hD1, hD2, hDl⟩ := blk3 kD_w12
    have rD0 := cell_regrown hD0
    have rD1 := cell_regrown hD1
    have rD2 := cell_regrown hD2
    obtain ⟨hM0, hM1, hM2, hMl⟩ := blk3 kM_w12
    have rM0 := cell_regrown hM0
    have rM1 := cell_regrown hM1
    have rM2 := cell_regrown hM2
    skip
    go_wp2_with fail
    refine wp_region_quiet_below (by kernel_rfl) (lexB_of (by kernel_rfl)) ?_
    try dsimp only [List.append]
    repeat (go_big_quiet_step (first | (go_at_call 23; with_reducible exact z1.out _ _) | (go_at_call 23; with_reducible exact z2.out _ _) | (go_at_call 23; with_reducible exact z3.out _ _) | (go_at_call 26; with_reducible exact z4.out _ _) | (go_at_call 25; with_reducible exact z5.out _ _)))
    refine wpQuiet_nil ?_
    intro _ hw'
    obtain ⟨⟨dq, osq⟩, hw''⟩ := hw'
    subst hw''
    clear rB0 rB1 rB2 hB0 hB1 hB2 hBl rC0 rC1 rC2 hC0 hC1 hC2 hCl rD0 rD1 rD2 hD0 hD1 hD2 hDl rM0 rM1 rM2 hM0 hM1 hM2 hMl
    have hbg := below_regrown w12 dq osq
    generalize Go.Sort.grow (redrawn w12 dq) osq = w13 at *
    clear hbW z1 z2 z3 z4 z5
    have kB_w13 := blk_next kB_w12 hbg
    have gB_w13 := gB_w12.trans (hbg.mono gB_w12.size)
    clear kB_w12 gB_w12
    have kC_w13 := blk_next kC_w12 hbg
    have gC_w13 := gC_w12.trans (hbg.mono gC_w12.size)
    clear kC_w12 gC_w12
    have kD_w13 := blk_next kD_w12 hbg
    have gD_w13 := gD_w12.trans (hbg.mono gD_w12.size)
    clear kD_w12 gD_w12
    have kM_w13 := blk_next kM_w12 hbg
    have gM_w13 := gM_w12.trans (hbg.mono gM_w12.size)
    clear kM_w12 gM_w12
    go_wp2
    go_ret
    exact ⟨rfl, hb1.trans (gB_w13.mono hs1)⟩
end Go.Proofs.Ytccjedongkokoaa.fnLikeness
