/- Contracts of the program's and the reference's functions (RowPP). -/
import Derived.BigQuiet
import Derived.Lib.QuietBelow
import Derived.Test.YtccjedongkokoaaRows
import Derived.Test.YtccjedongkokoaaQTaf
import Derived.Test.YtccjedongkokoaaQTq
import Derived.Test.YtccjedongkokoaaQTz
namespace Go.Proofs.Ytccjedongkokoaa
open Go.ChangeShapes Go.WideShapes Go.ChangeAt Go.RowKit
set_option linter.unusedVariables false
set_option linter.unusedSimpArgs false
set_option maxRecDepth 10000
def OkPP (l : List (Nat × Nat)) (m : Nat) : Prop := l.length ≤ m
theorem OkPP.more {l : List (Nat × Nat)} {m k : Nat} (h : OkPP l m) (hk : m ≤ k) : OkPP l k := Nat.le_trans h hk
theorem pair_own {w : World} {b lo : Nat} {x y : Int} (h : w.heap[b]? = some (.cells #[.int .i64 x, .int .i64 y] 3 (0, 0))) (hb : lo ≤ b) : w.ownsRow lo 3 1 (pv b) 2 [.int .i64 x, .int .i64 y] :=
  ⟨rfl, .inr ⟨b, 2, _, rfl, hb, h, Nat.le_refl _, by unfold maxLen; omega, rfl, rfl⟩⟩
theorem own_ne {w : World} {lo N b : Nat} {v : Value} {xs : List Value} {cs : Array Value} (hr : w.ownsRow lo 64 1 v N xs) (hb : w.heap[b]? = some (.cells cs 3 (0, 0))) : ∀ k, v.ownBlock = some k → k ≠ b := by
  intro k hk e
  subst e
  rcases hr.2 with ⟨rfl, _⟩ | ⟨g', cap, cur, rfl, _, hh, _⟩
  · simp [Value.ownBlock] at hk
  · have : g' = k := by simpa [Value.ownBlock] using hk
    subst this
    rw [hb] at hh
    injection hh with hh
    injection hh with _ hh _
    exact absurd hh (by decide)
theorem nd_ne {bs : List Nat} (h : bs.Nodup) {i j : Nat} (hi : i < bs.length) (hj : j < bs.length) (hij : i ≠ j) : bs[i] ≠ bs[j] := by
  rcases Nat.lt_or_gt_of_ne hij with q | q
  · exact (List.pairwise_iff_getElem.1 h) i j hi hj q
  · exact fun e => (List.pairwise_iff_getElem.1 h) j i hj hi q e.symm
structure MkPP (w : World) (lo hi : Nat) (A : Option Addr) (N c : Nat) (k : Int) (bs : List Nat) : Prop where
  row : w.ownsRow lo 64 1 (.slice A N c) N (bs.map pv)
  top : ∀ k, (Value.slice A N c).ownBlock = some k → k < hi
  bl : bs.length = N
  inn : ∀ i (h : i < bs.length), w.ownsRow lo 3 1 (pv bs[i]) 2 (marksN (k + 2 * (i : Nat)) 2) ∧ lo ≤ bs[i] ∧ bs[i] < hi
section
variable {w w' : World} {lo hi lo' hi' N c : Nat} {A : Option Addr} {l : List (Nat × Nat)} {bs : List Nat} {k : Int}
theorem OwnPP.within {a h : Nat} (ho : OwnPP w lo hi A N c l bs) (hW : Within a h w w') (hd : hi ≤ a ∨ h ≤ lo) : OwnPP w' lo hi A N c l bs :=
  ⟨own_within ho.row hW (fun k hk => by have h1 := ho.top k hk; have h2 := (ho.row.lt k hk).1; omega), ho.top, ho.ll, ho.bl, fun i p q => ⟨(hW.block _ (blk_lt (ho.blk i p q).1) (by
    have := (ho.blk i p q).2
    rcases hd with q | q
    · exact .inl (by omega)
    · exact .inr (.inl (by omega)))).trans (ho.blk i p q).1, (ho.blk i p q).2⟩, ho.nd⟩
theorem MkPP.below (h : MkPP w lo hi A N c k bs) (hb : Below w.heap.size w w') : MkPP w' lo hi A N c k bs := ⟨own_below h.row hb, h.top, h.bl, fun i q => ⟨own_below (h.inn i q).1 hb, (h.inn i q).2⟩⟩
end
set_option maxHeartbeats 1600000 in
theorem u_eqIntSS (l : List (Nat × Nat)) (A1 A2 : Option Addr) (c1 c2 lo1 hi1 lo2 hi2 : Nat) (b1 b2 : List Nat) (w : World) (h1 : OwnPP w lo1 hi1 A1 l.length c1 l b1) (h2 : OwnPP w lo2 hi2 A2 l.length c2 l b2) (hn : OkPP l 16777216) :
    Calls Try.prog 40 #[.slice A1 l.length c1, .slice A2 l.length c2] w fun e w' => e = .returned (.bool true) ∧ Below w.heap.size w w' := by
  unfold OkPP at hn
  have hl1 := h1.bl
  have hl2 := h2.bl
  obtain ⟨N, hN⟩ : ∃ n, l.length = n := ⟨_, rfl⟩
  have HN := Lib.hid hN
  have H1 := hide h1
  have H2 := hide h2
  rw [hN] at hn hl1 hl2 ⊢
  clear hN h1 h2
  go_enter Try.func40, Try.ntmps40
  go_wp2
  go_loopw [5] (fun i wr => ∃ j : Nat, j ≤ N ∧ i = .int .i64 (j : Int) ∧ Below w.heap.size w wr) (fun i _ => N - (intOf i).toNat)
  case atStart => exact ⟨0, Nat.zero_le _, rfl, Below.refl _ _⟩
  case round =>
    obtain ⟨j, hj, rfl, hb⟩ := hrel
    by_cases hlt : j < N
    · have hjl : j < l.length := by rw [HN.out]; exact hlt
      have g1 := H1.out.below hb
      have g2 := H2.out.below hb
      obtain ⟨ad1, u1, rfl, hab1, hu1, hc1⟩ := (Reads.of_own g1.row).at_ (k := j) hjl
      obtain ⟨ad2, u2, rfl, hab2, hu2, hc2⟩ := (Reads.of_own g2.row).at_ (k := j) hjl
      have hj1 : j < b1.length := by omega
      have hj2 : j < b2.length := by omega
      rw [List.getElem?_map, List.getElem?_eq_getElem hj1] at hu1
      rw [List.getElem?_map, List.getElem?_eq_getElem hj2] at hu2
      have e1 : u1 = .slice (some ⟨b1[j], 0, none⟩) 2 2 := by injection hu1 with hu1; exact hu1.symm
      have e2 : u2 = .slice (some ⟨b2[j], 0, none⟩) 2 2 := by injection hu2 with hu2; exact hu2.symm
      subst e1 e2
      have kE : ∀ W : World, Below wr.heap.size wr W → Calls Try.prog 80 #[.slice (some ⟨b1[j], 0, none⟩) 2 2, .slice (some ⟨b2[j], 0, none⟩) 2 2] W fun e w' => e = .returned (.bool true) ∧ Below W.heap.size W w' := by
        intro W hW
        have r1 := Reads.of_own (pair_own ((g1.below hW).blk j hjl hj1).1 ((g1.below hW).blk j hjl hj1).2.1)
        have r2 := Reads.of_own (pair_own ((g2.below hW).blk j hjl hj2).1 ((g2.below hW).blk j hjl hj2).2.1)
        exact l_eqIntS_same W.heap.size _ _ 2 2 2 [((l[j]).1 : Int), ((l[j]).2 : Int)] W r1 r2 (by omega)
      have hq1 : (ad1.add j).block < wr.heap.size := by rw [block_of_add]; exact hab1
      have hq2 : (ad2.add j).block < wr.heap.size := by rw [block_of_add]; exact hab2
      have hji : (j : Int) < (N : Int) := by omega
      have zE := hide (fun d_ os => Calls.regrown_of (kE (Go.Sort.grow (redrawn wr d_) os) (below_regrown wr d_ os)))
      have r1 := cell_regrown hc1
      have r2 := cell_regrown hc2
      clear kE g1 g2 hu1 hu2
      go_wp2_with fail
      refine wp_region_quiet_below (by kernel_rfl) (lexB_of (by kernel_rfl)) ?_
      try dsimp only [List.append]
      repeat (go_big_quiet_step (first | (go_at_call 80; exact zE.out _ _)))
      refine wpQuiet_nil ?_
      intro _ hw'
      obtain ⟨⟨dq, osq⟩, hw''⟩ := hw'
      subst hw''
      have hbg := below_regrown wr dq osq
      clear zE r1 r2 hc1 hc2
      generalize Go.Sort.grow (redrawn wr dq) osq = wz at *
      go_wp2
      go_roundw
      case rel => exact ⟨j + 1, by omega, by go_num, hb.trans (hbg.mono hb.size)⟩
      case measure => simp [intOf]; omega
    · have hjn : j = N := by omega
      subst hjn
      go_wp2
      go_ret
      exact ⟨rfl, hb⟩
set_option maxHeartbeats 1600000 in
theorem u_markIntSS (l : List (Nat × Nat)) (A : Option Addr) (c lo hi : Nat) (bs : List Nat) (k : Int) (w : World) (h : OwnPP w lo hi A l.length c l bs) (hk0 : 0 ≤ k) (hk1 : k ≤ 2251799813685248) (hn : OkPP l 16777216) :
    Calls Try.prog 43 #[.slice A l.length c, .int .i64 k] w fun e w' => e = .returned (.int .i64 (k + 2 * (l.length : Int))) ∧ MkPP w' lo hi A l.length c k bs ∧ Within lo hi w w' := by
  unfold OkPP at hn
  have hbl := h.bl
  obtain ⟨N, hN⟩ : ∃ n, l.length = n := ⟨_, rfl⟩
  have HN := Lib.hid hN
  have HH := hide h
  have hrow0 := h.row
  have hblk0 := fun i (p : i < l.length) (q : i < bs.length) => (h.blk i p q).1
  rw [hN] at hn hbl hrow0 ⊢
  clear hN h
  go_enter Try.func43, Try.ntmps43
  go_wp2
  go_loopw [1, 5] (fun q i wr => ∃ j : Nat, j ≤ N ∧ i = .int .i64 (j : Int) ∧ q = .int .i64 (k + 2 * (j : Int)) ∧ wr.ownsRow lo 64 1 (.slice A N c) N (bs.map pv) ∧ (∀ i (h : i < bs.length), i < j → wr.ownsRow lo 3 1 (pv bs[i]) 2 (marksN (k + 2 * (i : Nat)) 2)) ∧ (∀ i (p : i < l.length) (q : i < bs.length), j ≤ i → wr.heap[bs[i]]? = some (.cells #[.int .i64 (l[i].1 : Int), .int .i64 (l[i].2 : Int)] 3 (0, 0))) ∧ Within lo hi w wr) (fun _ i _ => N - (intOf i).toNat)
  case atStart => exact ⟨0, Nat.zero_le _, rfl, by simp, hrow0, fun i h q => absurd q (by omega), fun i p q _ => hblk0 i p q, Within.refl _ _ _⟩
  case round =>
    clear hrow0 hblk0
    obtain ⟨j, hj, rfl, rfl, hrow, hmk, hor, hW⟩ := hrel
    by_cases hlt : j < N
    · have hjl : j < l.length := by rw [HN.out]; exact hlt
      have hjb : j < bs.length := by omega
      obtain ⟨ad1, u1, rfl, hab1, hu1, hc1⟩ := (Reads.of_own hrow).at_ (k := j) hlt
      rw [List.getElem?_map, List.getElem?_eq_getElem hjb] at hu1
      have e1 : u1 = .slice (some ⟨bs[j], 0, none⟩) 2 2 := by injection hu1 with hu1; exact hu1.symm
      subst e1
      obtain ⟨_, hlo, hhi⟩ := HH.out.blk j hjl hjb
      have hbj := hor j hjl hjb (Nat.le_refl _)
      have hOj := pair_own hbj hlo
      have kM := l_markIntS lo (some ⟨bs[j], 0, none⟩) 2 2 _ (k + 2 * (j : Int)) wr hOj (by omega) (by omega) (by omega)
      have HK := hide kM
      have HMK := hide hmk
      have HOR := hide hor
      have HROW := hide hrow
      have HOJ := hide hOj
      have HBJ := hide hbj
      clear kM hmk hor hrow hOj hbj hu1
      go_wp2_with fail
      refine HK.out.mono ?_
      rintro e w2 ⟨rfl, ho2, hg2⟩
      have hne := own_ne HROW.out HBJ.out
      have hrow2 := own_grown HROW.out hg2 (fun q hq hr => hne q hq (by simpa [Value.ownBlock] using hr.symm))
      have hmk2 : ∀ i (h : i < bs.length), i < j + 1 → w2.ownsRow lo 3 1 (pv bs[i]) 2 (marksN (k + 2 * (i : Nat)) 2) := by
        intro i hi hij
        by_cases q : i = j
        · subst q; exact ho2
        · refine own_grown (HMK.out i hi (by omega)) hg2 (fun p hp hr => nd_ne HH.out.nd hi hjb q ?_)
          have a1 : bs[i] = p := by simpa [pv, Value.ownBlock] using hp
          have a2 : bs[j] = p := by simpa [Value.ownBlock] using hr
          rw [a1, a2]
      have hor2 : ∀ i (p : i < l.length) (q : i < bs.length), j + 1 ≤ i → w2.heap[bs[i]]? = some (.cells #[.int .i64 (l[i].1 : Int), .int .i64 (l[i].2 : Int)] 3 (0, 0)) := by
        intro i p q hij
        have hb0 := HOR.out i p q (by omega)
        refine (hg2.block _ (blk_lt hb0) (fun e => nd_ne HH.out.nd q hjb (by omega) ?_)).trans hb0
        simpa [Value.ownBlock] using e
      have hW2 : Within lo hi wr w2 := Within.of_grown HOJ.out (by decide) hg2 (Nat.le_refl _) (fun p hp => by
        have : bs[j] = p := by simpa [pv, Value.ownBlock] using hp
        omega)
      have A1 := hide hrow2
      have A2 := hide hmk2
      have A3 := hide hor2
      clear hrow2 hmk2 hor2 ho2 hg2 hne
      go_wp2
      go_roundw
      case rel => exact ⟨j + 1, by omega, by go_num, by congr 1; push_cast; omega, A1.out, A2.out, A3.out, hW.trans hW2⟩
      case measure => simp [intOf]; omega
    · have hjn : j = N := by omega
      subst hjn
      have HR : Hid (MkPP wr lo hi A j c k bs) := ⟨hrow, by have := HH.out.top; rw [HN.out] at this; exact this, hbl, fun i hi => ⟨hmk i hi (by omega), (HH.out.blk i (by rw [HN.out]; omega) hi).2⟩⟩
      clear hrow hmk hor
      go_wp2
      go_ret
      exact ⟨rfl, HR.out, hW⟩
set_option maxHeartbeats 1600000 in
theorem u_heldIntSS (A : Option Addr) (N c lo hi : Nat) (bs : List Nat) (k : Int) (w : World) (h : MkPP w lo hi A N c k bs) (hk0 : 0 ≤ k) (hk1 : k ≤ 2251799813685248) (hn : N ≤ 16777216) :
    Calls Try.prog 44 #[.slice A N c, .int .i64 k] w fun e w' => e = .returned (.int .i64 (k + 2 * (N : Int))) ∧ Below w.heap.size w w' := by
  have HH := hide h
  have hbl := h.bl
  clear h
  go_enter Try.func44, Try.ntmps44
  go_wp2
  go_loopw [1, 5] (fun q i wr => ∃ j : Nat, j ≤ N ∧ i = .int .i64 (j : Int) ∧ q = .int .i64 (k + 2 * (j : Int)) ∧ Below w.heap.size w wr) (fun _ i _ => N - (intOf i).toNat)
  case atStart => exact ⟨0, Nat.zero_le _, rfl, by simp, Below.refl _ _⟩
  case round =>
    obtain ⟨j, hj, rfl, rfl, hb⟩ := hrel
    by_cases hlt : j < N
    · have g := HH.out.below hb
      have hjb : j < bs.length := by omega
      obtain ⟨ad1, u1, rfl, hab1, hu1, hc1⟩ := (Reads.of_own g.row).at_ (k := j) hlt
      rw [List.getElem?_map, List.getElem?_eq_getElem hjb] at hu1
      have e1 : u1 = .slice (some ⟨bs[j], 0, none⟩) 2 2 := by injection hu1 with hu1; exact hu1.symm
      subst e1
      have kH := l_heldIntS wr.heap.size (some ⟨bs[j], 0, none⟩) 2 2 (k + 2 * (j : Int)) wr (Reads.of_own (g.inn j hjb).1) (by omega) (by omega) (by omega)
      have HK := hide kH
      have hneg : ¬ k + 2 * (j : Int) + ((2 : Nat) : Int) < 0 := by omega
      have hneg2 : ¬ k + 2 * (j : Int) + 2 < 0 := by omega
      clear kH g hu1
      go_wp2_with fail
      refine HK.out.mono ?_
      rintro e w2 ⟨rfl, hb2⟩
      go_wp2
      go_roundw
      case rel => exact ⟨j + 1, by omega, by go_num, by congr 1; push_cast; omega, hb.trans (hb2.mono hb.size)⟩
      case measure => simp [intOf]; omega
    · have hjn : j = N := by omega
      subst hjn
      go_wp2
      go_ret
      exact ⟨rfl, hb⟩
theorem twRes_ok (P : List PItem) : OkPP (twRes P) 1048576 := by
  unfold OkPP twRes
  split
  · rename_i h
    have hl : P.length ≤ 20 := by
      unfold catOk at h
      simp only [Bool.and_eq_true, decide_eq_true_eq] at h
      exact h.2
    rw [← twUp_end]
    have := twUp_len P P.length (P.length + 1) hl hl (by omega)
    omega
  · exact Nat.zero_le _
def UPairs (l : List (Nat × Nat)) (w : World) (e : Ending) (w' : World) : Prop :=
  ∃ A c B, e = .returned (.slice A l.length c) ∧ OwnPP w' w.heap.size w'.heap.size A l.length c l B ∧ Below w.heap.size w w'
theorem UPairs.of {l : List (Nat × Nat)} {w w' : World} {e : Ending} (h : ∃ A N c bs, e = .returned (.slice A N c) ∧ OwnPP w' w.heap.size w'.heap.size A N c l bs ∧ Below w.heap.size w w') : UPairs l w e w' := by
  obtain ⟨A, N, c, bs, rfl, ho, hb⟩ := h
  have hl := ho.ll
  subst hl
  exact ⟨A, c, bs, rfl, ho, hb⟩
end Go.Proofs.Ytccjedongkokoaa
