/- FnExactMakeCopies: the contracts behind it, part 5. -/
import Derived.Deep.RegionHeld3
import Derived.Deep.RegionLaw
import Derived.Test.YtdddglihomchfaaGreatRows
import Derived.Test.YtdddglihomchfaaGreatQMakeCopiesd
namespace Go.Proofs.YtdddglihomchfaaGreat
open Go.ChangeShapes Go.WideShapes Go.ChangeAt Go.RowKit
set_option linter.unusedVariables false
set_option maxRecDepth 10000
set_option maxHeartbeats 6400000 in
theorem s_CatalogOk (P : List PItem) (B : Nat) (A : Option Addr) (n c : Nat) (L : List RItem) (w : World) (hp : plI L = P) (hS : Items w B A n L) (hB : B ≤ w.heap.size) :
    Calls Tryz.prog 63 #[.slice A n c] w fun e w' => e = .returned (.bool (catOk P)) ∧ Below w.heap.size w w' := by
  have hn := hS.nb
  have hl : P.length = n := by rw [← hp, plI_len, hS.len]
  have HL := Lib.hid hl
  have HP := Lib.hid hp
  clear hl hp
  go_enter Tryz.func63, Tryz.ntmps63
  go_wp2
  go_loopw [3] (fun i wr => ∃ j : Nat, j ≤ n ∧ i = .int .i64 j ∧ Hid ((List.range j).all (itGood P) = true) ∧ Below w.heap.size w wr) (fun i _ => n - (intOf i).toNat)
  case atStart => exact ⟨0, Nat.zero_le _, rfl, by unfold Hid; simp, Below.refl _ _⟩
  case round =>
    obtain ⟨j, hj, rfl, HA, hb⟩ := hrel
    have hzr := hb.size
    by_cases hlt : j < n
    · have hSr := hS.below (hb.mono hB)
      obtain ⟨hk1, ad, rfl, hab, hc0, hc1, hc2, hc3, hss, hnm⟩ := hSr.at_ hlt
      have hx : P[j]? = some L[j].x := by rw [← HP.out]; exact plI_at hk1
      have HX := Lib.hid hx
      have hkP : j < P.length := by have := HL.out; omega
      have HKP := hide hkP
      clear hx hkP
      obtain ⟨nm, hnme⟩ : ∃ a, a = L[j].x.nm := ⟨_, rfl⟩
      obtain ⟨d, hde⟩ : ∃ a, a = L[j].x.d := ⟨_, rfl⟩
      obtain ⟨f, hfe⟩ : ∃ a, a = L[j].x.f := ⟨_, rfl⟩
      obtain ⟨ss, hse⟩ : ∃ a, a = L[j].x.ss := ⟨_, rfl⟩
      rw [← hnme] at hc0 hnm; rw [← hde] at hc1; rw [← hfe] at hc2; rw [← hse] at hc3 hss
      have hxx : L[j].x = ⟨nm, d, f, ss⟩ := by rw [hnme, hde, hfe, hse]
      rw [hxx] at HX
      generalize L[j].A = A0 at *
      generalize L[j].c = c0 at *
      clear hnme hde hfe hse hxx hk1
      cases hnok : nameOk nm
      · have HF := Lib.hid (catOk_no (unhide HKP) (by unfold itGood; rw [HX.out]; simp [hnok]))
        have hqn := fun W => s_NameOk nm W hnm
        simp only [hnok] at hqn
        have HQN := hide hqn
        clear hqn
        go_wp2
        have hs0 := hss
        obtain ⟨w0, hw0⟩ : ∃ W, W = wr := ⟨_, rfl⟩
        have hbW : Below wr.heap.size wr w0 := by rw [hw0]; exact Below.refl _ _
        rw [← hw0] at hs0 hc0 hc1 hc2 hc3 ⊢
        have hq2 : wr.heap.size ≤ w0.heap.size := hbW.size
        have hq1 : (ad.add (j * 4)).block < w0.heap.size := by rw [block_of_add]; omega
        clear hw0
        have hs0B := hs0.more (B' := w0.heap.size) (by omega)
        refine wp_region_noPanic ?_
        refine wp_region_held_drew (S := (fun W => (∀ p : Addr, p.block < w0.heap.size → W.cell? p = w0.cell? p) ∧ (∀ p : Addr, p.block < w0.heap.size → W.frozen? p = w0.frozen? p) ∧ Below w0.heap.size w0 W)) (by kernel_rfl) ?_ (fun hHeld => ?_)
        · exact (keep_ofP bel)
        refine wpAnyH_go (i := 0) (v := ?v10_0) rfl (by kernel_rfl) (by kernel_rfl) (by kernel_rfl) (fun _ _ _ h => h) (by rfl) ?hy10_0 (by assumption) ?rest10_0
        case hy10_0 => (intro w_ hSw; (try dsimp only at hSw); go_simp; (try (with_reducible rfl)))
        (try simp only [List.getElem_toArray, List.getElem_cons_zero, Act.put, List.setIfInBounds_toArray, List.set_cons_zero, List.set_cons_succ])
        refine wpAnyH_go (i := 1) (v := ?v10_1) rfl (by kernel_rfl) (by kernel_rfl) (by kernel_rfl) (fun _ _ _ h => h) (by rfl) ?hy10_1 (by assumption) ?rest10_1
        case hy10_1 => (intro w_ hSw; (try dsimp only at hSw); go_simp; (try (with_reducible rfl)))
        (try simp only [List.getElem_toArray, List.getElem_cons_zero, List.getElem_cons_succ, Act.put, List.setIfInBounds_toArray, List.set_cons_zero, List.set_cons_succ])
        refine wpAnyH_go (i := 2) (v := ?v10_2) rfl (by kernel_rfl) (by kernel_rfl) (by kernel_rfl) (fun _ _ _ h => h) (by rfl) ?hy10_2 (by assumption) ?rest10_2
        case hy10_2 => (intro w_ hSw; (try dsimp only at hSw); go_simp; (try (with_reducible rfl)))
        (try simp only [List.getElem_toArray, List.getElem_cons_zero, List.getElem_cons_succ, Act.put, List.setIfInBounds_toArray, List.set_cons_zero, List.set_cons_succ])
        refine wpAnyH_go (i := 3) (v := ?v10_3) rfl (by kernel_rfl) (by kernel_rfl) (by kernel_rfl) (fun _ _ _ h => h) (by rfl) ?hy10_3 (by assumption) ?rest10_3
        case hy10_3 => (intro w_ hSw; (try dsimp only at hSw); go_simp; (try (with_reducible rfl)))
        (try simp only [List.getElem_toArray, List.getElem_cons_zero, List.getElem_cons_succ, Act.put, List.setIfInBounds_toArray, List.set_cons_zero, List.set_cons_succ])
        refine wpAnyH_go (i := 4) (v := ?v10_4) rfl (by kernel_rfl) (by kernel_rfl) (by kernel_rfl) (fun _ _ _ h => h) (by rfl) ?hy10_4 (by assumption) ?rest10_4
        case hy10_4 => (intro w_ hSw; (try dsimp only at hSw); go_simp; (try (with_reducible rfl)))
        (try simp only [List.getElem_toArray, List.getElem_cons_zero, List.getElem_cons_succ, Act.put, List.setIfInBounds_toArray, List.set_cons_zero, List.set_cons_succ])
        refine wpAnyH_ready (rs := [5]) (by kernel_rfl) (by simp) ?_
        refine AllReadyH.cons rfl (fun K hK => ?_) AllReadyH.nil
        go_simp
        (refine (unhide HQN _).mono ?_; rintro e w' ⟨rfl, rfl⟩)
        (try (go_wp2_with fail))
        refine hK.out _ _ ?_ (fun hHeld => ?_)
        · exact (keep_ofP bel)
        clear hK K
        (try simp only [List.getElem_toArray, List.getElem_cons_zero, List.getElem_cons_succ, Act.put, List.setIfInBounds_toArray, List.set_cons_zero, List.set_cons_succ])
        refine wpAnyH_go (i := 6) (v := ?v10_6) rfl (by kernel_rfl) (by kernel_rfl) (by kernel_rfl) (fun _ _ _ h => h) (by rfl) ?hy10_6 (by assumption) ?rest10_6
        case hy10_6 => (intro w_ hSw; (try dsimp only at hSw); go_simp; (try (with_reducible rfl)))
        (try simp only [List.getElem_toArray, List.getElem_cons_zero, List.getElem_cons_succ, Act.put, List.setIfInBounds_toArray, List.set_cons_zero, List.set_cons_succ])
        refine wpAnyH_go (i := 7) (v := ?v10_7) rfl (by kernel_rfl) (by kernel_rfl) (by kernel_rfl) (fun _ _ _ h => h) (by rfl) ?hy10_7 (by assumption) ?rest10_7
        case hy10_7 => (intro w_ hSw; (try dsimp only at hSw); go_simp; (try (with_reducible rfl)))
        (try simp only [List.getElem_toArray, List.getElem_cons_zero, List.getElem_cons_succ, Act.put, List.setIfInBounds_toArray, List.set_cons_zero, List.set_cons_succ])
        refine wpAnyH_skip (i := 8) rfl (by kernel_rfl) (by kernel_rfl) (by kernel_rfl) (fun _ _ _ h => h) (by rfl) (by assumption) ?_
        (try simp only [List.getElem_toArray, List.getElem_cons_zero, List.getElem_cons_succ, Act.put, List.setIfInBounds_toArray, List.set_cons_zero, List.set_cons_succ])
        refine wpAnyH_skip (i := 9) rfl (by kernel_rfl) (by kernel_rfl) (by kernel_rfl) (fun _ _ _ h => h) (by rfl) (by assumption) ?_
        (try simp only [List.getElem_toArray, List.getElem_cons_zero, List.getElem_cons_succ, Act.put, List.setIfInBounds_toArray, List.set_cons_zero, List.set_cons_succ])
        refine wpAnyH_skip (i := 10) rfl (by kernel_rfl) (by kernel_rfl) (by kernel_rfl) (fun _ _ _ h => h) (by rfl) (by assumption) ?_
        (try simp only [List.getElem_toArray, List.getElem_cons_zero, List.getElem_cons_succ, Act.put, List.setIfInBounds_toArray, List.set_cons_zero, List.set_cons_succ])
        refine wpAnyH_skip (i := 11) rfl (by kernel_rfl) (by kernel_rfl) (by kernel_rfl) (fun _ _ _ h => h) (by rfl) (by assumption) ?_
        (try simp only [List.getElem_toArray, List.getElem_cons_zero, List.getElem_cons_succ, Act.put, List.setIfInBounds_toArray, List.set_cons_zero, List.set_cons_succ])
        refine wpAnyH_skip (i := 12) rfl (by kernel_rfl) (by kernel_rfl) (by kernel_rfl) (fun _ _ _ h => h) (by rfl) (by assumption) ?_
        (try simp only [List.getElem_toArray, List.getElem_cons_zero, List.getElem_cons_succ, Act.put, List.setIfInBounds_toArray, List.set_cons_zero, List.set_cons_succ])
        refine wpAnyH_skip (i := 13) rfl (by kernel_rfl) (by kernel_rfl) (by kernel_rfl) (fun _ _ _ h => h) (by rfl) (by assumption) ?_
        (try simp only [List.getElem_toArray, List.getElem_cons_zero, List.getElem_cons_succ, Act.put, List.setIfInBounds_toArray, List.set_cons_zero, List.set_cons_succ])
        refine wpAnyH_skip (i := 14) rfl (by kernel_rfl) (by kernel_rfl) (by kernel_rfl) (fun _ _ _ h => h) (by rfl) (by assumption) ?_
        (try simp only [List.getElem_toArray, List.getElem_cons_zero, List.getElem_cons_succ, Act.put, List.setIfInBounds_toArray, List.set_cons_zero, List.set_cons_succ])
        refine wpAnyH_go (i := 15) (v := ?v10_15) rfl (by kernel_rfl) (by kernel_rfl) (by kernel_rfl) (fun _ _ _ h => h) (by rfl) ?hy10_15 (by assumption) ?rest10_15
        case hy10_15 => (intro w_ hSw; (try dsimp only at hSw); go_simp; (try (with_reducible rfl)))
        (try simp only [List.getElem_toArray, List.getElem_cons_zero, List.getElem_cons_succ, Act.put, List.setIfInBounds_toArray, List.set_cons_zero, List.set_cons_succ])
        refine wpAnyH_go (i := 16) (v := ?v10_16) rfl (by kernel_rfl) (by kernel_rfl) (by kernel_rfl) (fun _ _ _ h => h) (by rfl) ?hy10_16 (by assumption) ?rest10_16
        case hy10_16 => (intro w_ hSw; (try dsimp only at hSw); go_simp; (try (with_reducible rfl)))
        (try simp only [List.getElem_toArray, List.getElem_cons_zero, List.getElem_cons_succ, Act.put, List.setIfInBounds_toArray, List.set_cons_zero, List.set_cons_succ])
        refine wpAnyH_skip (i := 17) rfl (by kernel_rfl) (by kernel_rfl) (by kernel_rfl) (fun _ _ _ h => h) (by rfl) (by assumption) ?_
        (try simp only [List.getElem_toArray, List.getElem_cons_zero, List.getElem_cons_succ, Act.put, List.setIfInBounds_toArray, List.set_cons_zero, List.set_cons_succ])
        refine wpAnyH_skip (i := 18) rfl (by kernel_rfl) (by kernel_rfl) (by kernel_rfl) (fun _ _ _ h => h) (by rfl) (by assumption) ?_
        (try simp only [List.getElem_toArray, List.getElem_cons_zero, List.getElem_cons_succ, Act.put, List.setIfInBounds_toArray, List.set_cons_zero, List.set_cons_succ])
        refine wpAnyH_skip (i := 19) rfl (by kernel_rfl) (by kernel_rfl) (by kernel_rfl) (fun _ _ _ h => h) (by rfl) (by assumption) ?_
        (try simp only [List.getElem_toArray, List.getElem_cons_zero, List.getElem_cons_succ, Act.put, List.setIfInBounds_toArray, List.set_cons_zero, List.set_cons_succ])
        refine wpAnyH_skip (i := 20) rfl (by kernel_rfl) (by kernel_rfl) (by kernel_rfl) (fun _ _ _ h => h) (by rfl) (by assumption) ?_
        (try simp only [List.getElem_toArray, List.getElem_cons_zero, List.getElem_cons_succ, Act.put, List.setIfInBounds_toArray, List.set_cons_zero, List.set_cons_succ])
        refine wpAnyH_skip (i := 21) rfl (by kernel_rfl) (by kernel_rfl) (by kernel_rfl) (fun _ _ _ h => h) (by rfl) (by assumption) ?_
        (try simp only [List.getElem_toArray, List.getElem_cons_zero, List.getElem_cons_succ, Act.put, List.setIfInBounds_toArray, List.set_cons_zero, List.set_cons_succ])
        refine wpAnyH_skip (i := 22) rfl (by kernel_rfl) (by kernel_rfl) (by kernel_rfl) (fun _ _ _ h => h) (by rfl) (by assumption) ?_
        (try simp only [List.getElem_toArray, List.getElem_cons_zero, List.getElem_cons_succ, Act.put, List.setIfInBounds_toArray, List.set_cons_zero, List.set_cons_succ])
        refine wpAnyH_skip (i := 23) rfl (by kernel_rfl) (by kernel_rfl) (by kernel_rfl) (fun _ _ _ h => h) (by rfl) (by assumption) ?_
        (try simp only [List.getElem_toArray, List.getElem_cons_zero, List.getElem_cons_succ, Act.put, List.setIfInBounds_toArray, List.set_cons_zero, List.set_cons_succ])
        refine wpAnyH_skip (i := 24) rfl (by kernel_rfl) (by kernel_rfl) (by kernel_rfl) (fun _ _ _ h => h) (by rfl) (by assumption) ?_
        (try simp only [List.getElem_toArray, List.getElem_cons_zero, List.getElem_cons_succ, Act.put, List.setIfInBounds_toArray, List.set_cons_zero, List.set_cons_succ])
        refine wpAnyH_skip (i := 25) rfl (by kernel_rfl) (by kernel_rfl) (by kernel_rfl) (fun _ _ _ h => h) (by rfl) (by assumption) ?_
        (try simp only [List.getElem_toArray, List.getElem_cons_zero, List.getElem_cons_succ, Act.put, List.setIfInBounds_toArray, List.set_cons_zero, List.set_cons_succ])
        refine wpAnyH_skip (i := 26) rfl (by kernel_rfl) (by kernel_rfl) (by kernel_rfl) (fun _ _ _ h => h) (by rfl) (by assumption) ?_
        (try simp only [List.getElem_toArray, List.getElem_cons_zero, List.getElem_cons_succ, Act.put, List.setIfInBounds_toArray, List.set_cons_zero, List.set_cons_succ])
        refine wpAnyH_skip (i := 27) rfl (by kernel_rfl) (by kernel_rfl) (by kernel_rfl) (fun _ _ _ h => h) (by rfl) (by assumption) ?_
        (try simp only [List.getElem_toArray, List.getElem_cons_zero, List.getElem_cons_succ, Act.put, List.setIfInBounds_toArray, List.set_cons_zero, List.set_cons_succ])
        refine wpAnyH_skip (i := 28) rfl (by kernel_rfl) (by kernel_rfl) (by kernel_rfl) (fun _ _ _ h => h) (by rfl) (by assumption) ?_
        (try simp only [List.getElem_toArray, List.getElem_cons_zero, List.getElem_cons_succ, Act.put, List.setIfInBounds_toArray, List.set_cons_zero, List.set_cons_succ])
        refine wpAnyH_skip (i := 29) rfl (by kernel_rfl) (by kernel_rfl) (by kernel_rfl) (fun _ _ _ h => h) (by rfl) (by assumption) ?_
        (try simp only [List.getElem_toArray, List.getElem_cons_zero, List.getElem_cons_succ, Act.put, List.setIfInBounds_toArray, List.set_cons_zero, List.set_cons_succ])
        refine wpAnyH_skip (i := 30) rfl (by kernel_rfl) (by kernel_rfl) (by kernel_rfl) (fun _ _ _ h => h) (by rfl) (by assumption) ?_
        (try simp only [List.getElem_toArray, List.getElem_cons_zero, List.getElem_cons_succ, Act.put, List.setIfInBounds_toArray, List.set_cons_zero, List.set_cons_succ])
        refine wpAnyH_skip (i := 31) rfl (by kernel_rfl) (by kernel_rfl) (by kernel_rfl) (fun _ _ _ h => h) (by rfl) (by assumption) ?_
        (try simp only [List.getElem_toArray, List.getElem_cons_zero, List.getElem_cons_succ, Act.put, List.setIfInBounds_toArray, List.set_cons_zero, List.set_cons_succ])
        refine wpAnyH_skip (i := 32) rfl (by kernel_rfl) (by kernel_rfl) (by kernel_rfl) (fun _ _ _ h => h) (by rfl) (by assumption) ?_
        (try simp only [List.getElem_toArray, List.getElem_cons_zero, List.getElem_cons_succ, Act.put, List.setIfInBounds_toArray, List.set_cons_zero, List.set_cons_succ])
        refine wpAnyH_go (i := 33) (v := ?v10_33) rfl (by kernel_rfl) (by kernel_rfl) (by kernel_rfl) (fun _ _ _ h => h) (by rfl) ?hy10_33 (by assumption) ?rest10_33
        case hy10_33 => (intro w_ hSw; (try dsimp only at hSw); go_simp; (try (with_reducible rfl)))
        (try simp only [List.getElem_toArray, List.getElem_cons_zero, List.getElem_cons_succ, Act.put, List.setIfInBounds_toArray, List.set_cons_zero, List.set_cons_succ])
        refine wpAnyH_done (by kernel_rfl) ?_ _
        refine NoPanic.normal ?_
        all_goals (
          go_wp2
          go_ret
          exact ⟨ret_bool HF.out.symm, hb.trans ((hbW.trans (Below.mono (by first | exact Below.refl _ _ | exact (Below.refl _ _).drew | exact below_drewN (Below.refl _ _) _ | exact bel) hq2)).mono hzr)⟩)
      · cases hck : cardOk d f ss
        · have HF := Lib.hid (catOk_no (unhide HKP) (by unfold itGood; rw [HX.out]; simp [hck]))
          have hqn := fun W => s_NameOk nm W hnm
          simp only [hnok] at hqn
          have HQN := hide hqn
          clear hqn
          go_wp2
          have hs0 := hss
          obtain ⟨w0, hw0⟩ : ∃ W, W = wr := ⟨_, rfl⟩
          have hbW : Below wr.heap.size wr w0 := by rw [hw0]; exact Below.refl _ _
          rw [← hw0] at hs0 hc0 hc1 hc2 hc3 ⊢
          have hq2 : wr.heap.size ≤ w0.heap.size := hbW.size
          have hq1 : (ad.add (j * 4)).block < w0.heap.size := by rw [block_of_add]; omega
          clear hw0
          have hs0B := hs0.more (B' := w0.heap.size) (by omega)
          refine wp_region_noPanic ?_
          refine wp_region_held_drew (S := (fun W => (∀ p : Addr, p.block < w0.heap.size → W.cell? p = w0.cell? p) ∧ (∀ p : Addr, p.block < w0.heap.size → W.frozen? p = w0.frozen? p) ∧ Below w0.heap.size w0 W)) (by kernel_rfl) ?_ (fun hHeld => ?_)
          · exact (keep_ofP bel)
          refine wpAnyH_go (i := 0) (v := ?v11_0) rfl (by kernel_rfl) (by kernel_rfl) (by kernel_rfl) (fun _ _ _ h => h) (by rfl) ?hy11_0 (by assumption) ?rest11_0
          case hy11_0 => (intro w_ hSw; (try dsimp only at hSw); go_simp; (try (with_reducible rfl)))
          (try simp only [List.getElem_toArray, List.getElem_cons_zero, Act.put, List.setIfInBounds_toArray, List.set_cons_zero, List.set_cons_succ])
          refine wpAnyH_go (i := 1) (v := ?v11_1) rfl (by kernel_rfl) (by kernel_rfl) (by kernel_rfl) (fun _ _ _ h => h) (by rfl) ?hy11_1 (by assumption) ?rest11_1
          case hy11_1 => (intro w_ hSw; (try dsimp only at hSw); go_simp; (try (with_reducible rfl)))
          (try simp only [List.getElem_toArray, List.getElem_cons_zero, List.getElem_cons_succ, Act.put, List.setIfInBounds_toArray, List.set_cons_zero, List.set_cons_succ])
          refine wpAnyH_go (i := 2) (v := ?v11_2) rfl (by kernel_rfl) (by kernel_rfl) (by kernel_rfl) (fun _ _ _ h => h) (by rfl) ?hy11_2 (by assumption) ?rest11_2
          case hy11_2 => (intro w_ hSw; (try dsimp only at hSw); go_simp; (try (with_reducible rfl)))
          (try simp only [List.getElem_toArray, List.getElem_cons_zero, List.getElem_cons_succ, Act.put, List.setIfInBounds_toArray, List.set_cons_zero, List.set_cons_succ])
          refine wpAnyH_go (i := 3) (v := ?v11_3) rfl (by kernel_rfl) (by kernel_rfl) (by kernel_rfl) (fun _ _ _ h => h) (by rfl) ?hy11_3 (by assumption) ?rest11_3
          case hy11_3 => (intro w_ hSw; (try dsimp only at hSw); go_simp; (try (with_reducible rfl)))
          (try simp only [List.getElem_toArray, List.getElem_cons_zero, List.getElem_cons_succ, Act.put, List.setIfInBounds_toArray, List.set_cons_zero, List.set_cons_succ])
          refine wpAnyH_go (i := 4) (v := ?v11_4) rfl (by kernel_rfl) (by kernel_rfl) (by kernel_rfl) (fun _ _ _ h => h) (by rfl) ?hy11_4 (by assumption) ?rest11_4
          case hy11_4 => (intro w_ hSw; (try dsimp only at hSw); go_simp; (try (with_reducible rfl)))
          (try simp only [List.getElem_toArray, List.getElem_cons_zero, List.getElem_cons_succ, Act.put, List.setIfInBounds_toArray, List.set_cons_zero, List.set_cons_succ])
          refine wpAnyH_ready (rs := [5]) (by kernel_rfl) (by simp) ?_
          refine AllReadyH.cons rfl (fun K hK => ?_) AllReadyH.nil
          go_simp
          (refine (unhide HQN _).mono ?_; rintro e w' ⟨rfl, rfl⟩)
          (try (go_wp2_with fail))
          refine hK.out _ _ ?_ (fun hHeld => ?_)
          · exact (keep_ofP bel)
          clear hK K
          (try simp only [List.getElem_toArray, List.getElem_cons_zero, List.getElem_cons_succ, Act.put, List.setIfInBounds_toArray, List.set_cons_zero, List.set_cons_succ])
          refine wpAnyH_go (i := 6) (v := ?v11_6) rfl (by kernel_rfl) (by kernel_rfl) (by kernel_rfl) (fun _ _ _ h => h) (by rfl) ?hy11_6 (by assumption) ?rest11_6
          case hy11_6 => (intro w_ hSw; (try dsimp only at hSw); go_simp; (try (with_reducible rfl)))
          (try simp only [List.getElem_toArray, List.getElem_cons_zero, List.getElem_cons_succ, Act.put, List.setIfInBounds_toArray, List.set_cons_zero, List.set_cons_succ])
          refine wpAnyH_go (i := 7) (v := ?v11_7) rfl (by kernel_rfl) (by kernel_rfl) (by kernel_rfl) (fun _ _ _ h => h) (by rfl) ?hy11_7 (by assumption) ?rest11_7
          case hy11_7 => (intro w_ hSw; (try dsimp only at hSw); go_simp; (try (with_reducible rfl)))
          (try simp only [List.getElem_toArray, List.getElem_cons_zero, List.getElem_cons_succ, Act.put, List.setIfInBounds_toArray, List.set_cons_zero, List.set_cons_succ])
          refine wpAnyH_go (i := 8) (v := ?v11_8) rfl (by kernel_rfl) (by kernel_rfl) (by kernel_rfl) (fun _ _ _ h => h) (by rfl) ?hy11_8 (by assumption) ?rest11_8
          case hy11_8 => (intro w_ hSw; (try dsimp only at hSw); go_simp; (try (with_reducible rfl)))
          (try simp only [List.getElem_toArray, List.getElem_cons_zero, List.getElem_cons_succ, Act.put, List.setIfInBounds_toArray, List.set_cons_zero, List.set_cons_succ])
          refine wpAnyH_go (i := 9) (v := ?v11_9) rfl (by kernel_rfl) (by kernel_rfl) (by kernel_rfl) (fun _ _ _ h => h) (by rfl) ?hy11_9 (by assumption) ?rest11_9
          case hy11_9 => (intro w_ hSw; (try dsimp only at hSw); go_simp; (try (with_reducible rfl)))
          (try simp only [List.getElem_toArray, List.getElem_cons_zero, List.getElem_cons_succ, Act.put, List.setIfInBounds_toArray, List.set_cons_zero, List.set_cons_succ])
          refine wpAnyH_go (i := 10) (v := ?v11_10) rfl (by kernel_rfl) (by kernel_rfl) (by kernel_rfl) (fun _ _ _ h => h) (by rfl) ?hy11_10 (by assumption) ?rest11_10
          case hy11_10 => (intro w_ hSw; (try dsimp only at hSw); go_simp; (try (with_reducible rfl)))
          (try simp only [List.getElem_toArray, List.getElem_cons_zero, List.getElem_cons_succ, Act.put, List.setIfInBounds_toArray, List.set_cons_zero, List.set_cons_succ])
          refine wpAnyH_go (i := 11) (v := ?v11_11) rfl (by kernel_rfl) (by kernel_rfl) (by kernel_rfl) (fun _ _ _ h => h) (by rfl) ?hy11_11 (by assumption) ?rest11_11
          case hy11_11 => (intro w_ hSw; (try dsimp only at hSw); go_simp; (try (with_reducible rfl)))
          (try simp only [List.getElem_toArray, List.getElem_cons_zero, List.getElem_cons_succ, Act.put, List.setIfInBounds_toArray, List.set_cons_zero, List.set_cons_succ])
          refine wpAnyH_go (i := 12) (v := ?v11_12) rfl (by kernel_rfl) (by kernel_rfl) (by kernel_rfl) (fun _ _ _ h => h) (by rfl) ?hy11_12 (by assumption) ?rest11_12
          case hy11_12 => (intro w_ hSw; (try dsimp only at hSw); go_simp; (try (with_reducible rfl)))
          (try simp only [List.getElem_toArray, List.getElem_cons_zero, List.getElem_cons_succ, Act.put, List.setIfInBounds_toArray, List.set_cons_zero, List.set_cons_succ])
          refine wpAnyH_ready (rs := [13]) (by kernel_rfl) (by simp) ?_
          refine AllReadyH.cons rfl (fun K hK => ?_) AllReadyH.nil
          go_simp
          (have hq := (‹_ ∧ _ ∧ Below _ _ _›).2.2; refine (s_CardOk d f _ _ _ ss _ ?_).mono ?_; exact (hs0B.below hq).more hq.size; rw [hck]; rintro e w2 ⟨rfl, hb2⟩)
          (try (go_wp2_with fail))
          refine hK.out _ _ ?_ (fun hHeld => ?_)
          · exact (keep_ofP bel)
          clear hK K
          (try simp only [List.getElem_toArray, List.getElem_cons_zero, List.getElem_cons_succ, Act.put, List.setIfInBounds_toArray, List.set_cons_zero, List.set_cons_succ])
          refine wpAnyH_go (i := 14) (v := ?v11_14) rfl (by kernel_rfl) (by kernel_rfl) (by kernel_rfl) (fun _ _ _ h => h) (by rfl) ?hy11_14 (by assumption) ?rest11_14
          case hy11_14 => (intro w_ hSw; (try dsimp only at hSw); go_simp; (try (with_reducible rfl)))
          (try simp only [List.getElem_toArray, List.getElem_cons_zero, List.getElem_cons_succ, Act.put, List.setIfInBounds_toArray, List.set_cons_zero, List.set_cons_succ])
          refine wpAnyH_go (i := 15) (v := ?v11_15) rfl (by kernel_rfl) (by kernel_rfl) (by kernel_rfl) (fun _ _ _ h => h) (by rfl) ?hy11_15 (by assumption) ?rest11_15
          case hy11_15 => (intro w_ hSw; (try dsimp only at hSw); go_simp; (try (with_reducible rfl)))
          (try simp only [List.getElem_toArray, List.getElem_cons_zero, List.getElem_cons_succ, Act.put, List.setIfInBounds_toArray, List.set_cons_zero, List.set_cons_succ])
          refine wpAnyH_go (i := 16) (v := ?v11_16) rfl (by kernel_rfl) (by kernel_rfl) (by kernel_rfl) (fun _ _ _ h => h) (by rfl) ?hy11_16 (by assumption) ?rest11_16
          case hy11_16 => (intro w_ hSw; (try dsimp only at hSw); go_simp; (try (with_reducible rfl)))
          (try simp only [List.getElem_toArray, List.getElem_cons_zero, List.getElem_cons_succ, Act.put, List.setIfInBounds_toArray, List.set_cons_zero, List.set_cons_succ])
          refine wpAnyH_skip (i := 17) rfl (by kernel_rfl) (by kernel_rfl) (by kernel_rfl) (fun _ _ _ h => h) (by rfl) (by assumption) ?_
          (try simp only [List.getElem_toArray, List.getElem_cons_zero, List.getElem_cons_succ, Act.put, List.setIfInBounds_toArray, List.set_cons_zero, List.set_cons_succ])
          refine wpAnyH_skip (i := 18) rfl (by kernel_rfl) (by kernel_rfl) (by kernel_rfl) (fun _ _ _ h => h) (by rfl) (by assumption) ?_
          (try simp only [List.getElem_toArray, List.getElem_cons_zero, List.getElem_cons_succ, Act.put, List.setIfInBounds_toArray, List.set_cons_zero, List.set_cons_succ])
          refine wpAnyH_skip (i := 19) rfl (by kernel_rfl) (by kernel_rfl) (by kernel_rfl) (fun _ _ _ h => h) (by rfl) (by assumption) ?_
          (try simp only [List.getElem_toArray, List.getElem_cons_zero, List.getElem_cons_succ, Act.put, List.setIfInBounds_toArray, List.set_cons_zero, List.set_cons_succ])
          refine wpAnyH_skip (i := 20) rfl (by kernel_rfl) (by kernel_rfl) (by kernel_rfl) (fun _ _ _ h => h) (by rfl) (by assumption) ?_
          (try simp only [List.getElem_toArray, List.getElem_cons_zero, List.getElem_cons_succ, Act.put, List.setIfInBounds_toArray, List.set_cons_zero, List.set_cons_succ])
          refine wpAnyH_skip (i := 21) rfl (by kernel_rfl) (by kernel_rfl) (by kernel_rfl) (fun _ _ _ h => h) (by rfl) (by assumption) ?_
          (try simp only [List.getElem_toArray, List.getElem_cons_zero, List.getElem_cons_succ, Act.put, List.setIfInBounds_toArray, List.set_cons_zero, List.set_cons_succ])
          refine wpAnyH_skip (i := 22) rfl (by kernel_rfl) (by kernel_rfl) (by kernel_rfl) (fun _ _ _ h => h) (by rfl) (by assumption) ?_
          (try simp only [List.getElem_toArray, List.getElem_cons_zero, List.getElem_cons_succ, Act.put, List.setIfInBounds_toArray, List.set_cons_zero, List.set_cons_succ])
          refine wpAnyH_skip (i := 23) rfl (by kernel_rfl) (by kernel_rfl) (by kernel_rfl) (fun _ _ _ h => h) (by rfl) (by assumption) ?_
          (try simp only [List.getElem_toArray, List.getElem_cons_zero, List.getElem_cons_succ, Act.put, List.setIfInBounds_toArray, List.set_cons_zero, List.set_cons_succ])
          refine wpAnyH_skip (i := 24) rfl (by kernel_rfl) (by kernel_rfl) (by kernel_rfl) (fun _ _ _ h => h) (by rfl) (by assumption) ?_
          (try simp only [List.getElem_toArray, List.getElem_cons_zero, List.getElem_cons_succ, Act.put, List.setIfInBounds_toArray, List.set_cons_zero, List.set_cons_succ])
          refine wpAnyH_skip (i := 25) rfl (by kernel_rfl) (by kernel_rfl) (by kernel_rfl) (fun _ _ _ h => h) (by rfl) (by assumption) ?_
          (try simp only [List.getElem_toArray, List.getElem_cons_zero, List.getElem_cons_succ, Act.put, List.setIfInBounds_toArray, List.set_cons_zero, List.set_cons_succ])
          refine wpAnyH_skip (i := 26) rfl (by kernel_rfl) (by kernel_rfl) (by kernel_rfl) (fun _ _ _ h => h) (by rfl) (by assumption) ?_
          (try simp only [List.getElem_toArray, List.getElem_cons_zero, List.getElem_cons_succ, Act.put, List.setIfInBounds_toArray, List.set_cons_zero, List.set_cons_succ])
          refine wpAnyH_skip (i := 27) rfl (by kernel_rfl) (by kernel_rfl) (by kernel_rfl) (fun _ _ _ h => h) (by rfl) (by assumption) ?_
          (try simp only [List.getElem_toArray, List.getElem_cons_zero, List.getElem_cons_succ, Act.put, List.setIfInBounds_toArray, List.set_cons_zero, List.set_cons_succ])
          refine wpAnyH_skip (i := 28) rfl (by kernel_rfl) (by kernel_rfl) (by kernel_rfl) (fun _ _ _ h => h) (by rfl) (by assumption) ?_
          (try simp only [List.getElem_toArray, List.getElem_cons_zero, List.getElem_cons_succ, Act.put, List.setIfInBounds_toArray, List.set_cons_zero, List.set_cons_succ])
          refine wpAnyH_skip (i := 29) rfl (by kernel_rfl) (by kernel_rfl) (by kernel_rfl) (fun _ _ _ h => h) (by rfl) (by assumption) ?_
          (try simp only [List.getElem_toArray, List.getElem_cons_zero, List.getElem_cons_succ, Act.put, List.setIfInBounds_toArray, List.set_cons_zero, List.set_cons_succ])
          refine wpAnyH_skip (i := 30) rfl (by kernel_rfl) (by kernel_rfl) (by kernel_rfl) (fun _ _ _ h => h) (by rfl) (by assumption) ?_
          (try simp only [List.getElem_toArray, List.getElem_cons_zero, List.getElem_cons_succ, Act.put, List.setIfInBounds_toArray, List.set_cons_zero, List.set_cons_succ])
          refine wpAnyH_skip (i := 31) rfl (by kernel_rfl) (by kernel_rfl) (by kernel_rfl) (fun _ _ _ h => h) (by rfl) (by assumption) ?_
          (try simp only [List.getElem_toArray, List.getElem_cons_zero, List.getElem_cons_succ, Act.put, List.setIfInBounds_toArray, List.set_cons_zero, List.set_cons_succ])
          refine wpAnyH_skip (i := 32) rfl (by kernel_rfl) (by kernel_rfl) (by kernel_rfl) (fun _ _ _ h => h) (by rfl) (by assumption) ?_
          (try simp only [List.getElem_toArray, List.getElem_cons_zero, List.getElem_cons_succ, Act.put, List.setIfInBounds_toArray, List.set_cons_zero, List.set_cons_succ])
          refine wpAnyH_go (i := 33) (v := ?v11_33) rfl (by kernel_rfl) (by kernel_rfl) (by kernel_rfl) (fun _ _ _ h => h) (by rfl) ?hy11_33 (by assumption) ?rest11_33
          case hy11_33 => (intro w_ hSw; (try dsimp only at hSw); go_simp; (try (with_reducible rfl)))
          (try simp only [List.getElem_toArray, List.getElem_cons_zero, List.getElem_cons_succ, Act.put, List.setIfInBounds_toArray, List.set_cons_zero, List.set_cons_succ])
          refine wpAnyH_done (by kernel_rfl) ?_ _
          refine NoPanic.normal ?_
          all_goals (
            go_wp2
            go_ret
            exact ⟨ret_bool HF.out.symm, hb.trans ((hbW.trans (Below.mono (by first | exact hb2 | exact (Below.refl _ _).drew.trans hb2 | exact below_drewN hb2 _ | exact (below_drewN (Below.refl _ _) _).trans hb2 | exact bel) hq2)).mono hzr)⟩)
        · by_cases hj0 : j = 0
          · have hjz : ¬ 0 < j := (by omega); have hdj : decide (0 < j) = false := (by simp [hj0]); have HJ0 := Lib.hid hj0; clear hj0
            have hqn := fun W => s_NameOk nm W hnm
            simp only [hnok] at hqn
            have HQN := hide hqn
            clear hqn
            go_wp2
            have hs0 := hss
            obtain ⟨w0, hw0⟩ : ∃ W, W = wr := ⟨_, rfl⟩
            have hbW : Below wr.heap.size wr w0 := by rw [hw0]; exact Below.refl _ _
            rw [← hw0] at hs0 hc0 hc1 hc2 hc3 ⊢
            have hq2 : wr.heap.size ≤ w0.heap.size := hbW.size
            have hq1 : (ad.add (j * 4)).block < w0.heap.size := by rw [block_of_add]; omega
            clear hw0
            have hs0B := hs0.more (B' := w0.heap.size) (by omega)
            refine wp_region_noPanic ?_
            refine wp_region_held_drew (S := (fun W => (∀ p : Addr, p.block < w0.heap.size → W.cell? p = w0.cell? p) ∧ (∀ p : Addr, p.block < w0.heap.size → W.frozen? p = w0.frozen? p) ∧ Below w0.heap.size w0 W)) (by kernel_rfl) ?_ (fun hHeld => ?_)
            · exact (keep_ofP bel)
            refine wpAnyH_go (i := 0) (v := ?v12_0) rfl (by kernel_rfl) (by kernel_rfl) (by kernel_rfl) (fun _ _ _ h => h) (by rfl) ?hy12_0 (by assumption) ?rest12_0
            case hy12_0 => (intro w_ hSw; (try dsimp only at hSw); go_simp; (try (with_reducible rfl)))
            (try simp only [List.getElem_toArray, List.getElem_cons_zero, Act.put, List.setIfInBounds_toArray, List.set_cons_zero, List.set_cons_succ])
            refine wpAnyH_go (i := 1) (v := ?v12_1) rfl (by kernel_rfl) (by kernel_rfl) (by kernel_rfl) (fun _ _ _ h => h) (by rfl) ?hy12_1 (by assumption) ?rest12_1
            case hy12_1 => (intro w_ hSw; (try dsimp only at hSw); go_simp; (try (with_reducible rfl)))
            (try simp only [List.getElem_toArray, List.getElem_cons_zero, List.getElem_cons_succ, Act.put, List.setIfInBounds_toArray, List.set_cons_zero, List.set_cons_succ])
            refine wpAnyH_go (i := 2) (v := ?v12_2) rfl (by kernel_rfl) (by kernel_rfl) (by kernel_rfl) (fun _ _ _ h => h) (by rfl) ?hy12_2 (by assumption) ?rest12_2
            case hy12_2 => (intro w_ hSw; (try dsimp only at hSw); go_simp; (try (with_reducible rfl)))
            (try simp only [List.getElem_toArray, List.getElem_cons_zero, List.getElem_cons_succ, Act.put, List.setIfInBounds_toArray, List.set_cons_zero, List.set_cons_succ])
            refine wpAnyH_go (i := 3) (v := ?v12_3) rfl (by kernel_rfl) (by kernel_rfl) (by kernel_rfl) (fun _ _ _ h => h) (by rfl) ?hy12_3 (by assumption) ?rest12_3
            case hy12_3 => (intro w_ hSw; (try dsimp only at hSw); go_simp; (try (with_reducible rfl)))
            (try simp only [List.getElem_toArray, List.getElem_cons_zero, List.getElem_cons_succ, Act.put, List.setIfInBounds_toArray, List.set_cons_zero, List.set_cons_succ])
            refine wpAnyH_go (i := 4) (v := ?v12_4) rfl (by kernel_rfl) (by kernel_rfl) (by kernel_rfl) (fun _ _ _ h => h) (by rfl) ?hy12_4 (by assumption) ?rest12_4
            case hy12_4 => (intro w_ hSw; (try dsimp only at hSw); go_simp; (try (with_reducible rfl)))
            (try simp only [List.getElem_toArray, List.getElem_cons_zero, List.getElem_cons_succ, Act.put, List.setIfInBounds_toArray, List.set_cons_zero, List.set_cons_succ])
            refine wpAnyH_ready (rs := [5]) (by kernel_rfl) (by simp) ?_
            refine AllReadyH.cons rfl (fun K hK => ?_) AllReadyH.nil
            go_simp
            (refine (unhide HQN _).mono ?_; rintro e w' ⟨rfl, rfl⟩)
            (try (go_wp2_with fail))
            refine hK.out _ _ ?_ (fun hHeld => ?_)
            · exact (keep_ofP bel)
            clear hK K
            (try simp only [List.getElem_toArray, List.getElem_cons_zero, List.getElem_cons_succ, Act.put, List.setIfInBounds_toArray, List.set_cons_zero, List.set_cons_succ])
            refine wpAnyH_go (i := 6) (v := ?v12_6) rfl (by kernel_rfl) (by kernel_rfl) (by kernel_rfl) (fun _ _ _ h => h) (by rfl) ?hy12_6 (by assumption) ?rest12_6
            case hy12_6 => (intro w_ hSw; (try dsimp only at hSw); go_simp; (try (with_reducible rfl)))
            (try simp only [List.getElem_toArray, List.getElem_cons_zero, List.getElem_cons_succ, Act.put, List.setIfInBounds_toArray, List.set_cons_zero, List.set_cons_succ])
            refine wpAnyH_go (i := 7) (v := ?v12_7) rfl (by kernel_rfl) (by kernel_rfl) (by kernel_rfl) (fun _ _ _ h => h) (by rfl) ?hy12_7 (by assumption) ?rest12_7
            case hy12_7 => (intro w_ hSw; (try dsimp only at hSw); go_simp; (try (with_reducible rfl)))
            (try simp only [List.getElem_toArray, List.getElem_cons_zero, List.getElem_cons_succ, Act.put, List.setIfInBounds_toArray, List.set_cons_zero, List.set_cons_succ])
            refine wpAnyH_go (i := 8) (v := ?v12_8) rfl (by kernel_rfl) (by kernel_rfl) (by kernel_rfl) (fun _ _ _ h => h) (by rfl) ?hy12_8 (by assumption) ?rest12_8
            case hy12_8 => (intro w_ hSw; (try dsimp only at hSw); go_simp; (try (with_reducible rfl)))
            (try simp only [List.getElem_toArray, List.getElem_cons_zero, List.getElem_cons_succ, Act.put, List.setIfInBounds_toArray, List.set_cons_zero, List.set_cons_succ])
            refine wpAnyH_go (i := 9) (v := ?v12_9) rfl (by kernel_rfl) (by kernel_rfl) (by kernel_rfl) (fun _ _ _ h => h) (by rfl) ?hy12_9 (by assumption) ?rest12_9
            case hy12_9 => (intro w_ hSw; (try dsimp only at hSw); go_simp; (try (with_reducible rfl)))
            (try simp only [List.getElem_toArray, List.getElem_cons_zero, List.getElem_cons_succ, Act.put, List.setIfInBounds_toArray, List.set_cons_zero, List.set_cons_succ])
            refine wpAnyH_go (i := 10) (v := ?v12_10) rfl (by kernel_rfl) (by kernel_rfl) (by kernel_rfl) (fun _ _ _ h => h) (by rfl) ?hy12_10 (by assumption) ?rest12_10
            case hy12_10 => (intro w_ hSw; (try dsimp only at hSw); go_simp; (try (with_reducible rfl)))
            (try simp only [List.getElem_toArray, List.getElem_cons_zero, List.getElem_cons_succ, Act.put, List.setIfInBounds_toArray, List.set_cons_zero, List.set_cons_succ])
            refine wpAnyH_go (i := 11) (v := ?v12_11) rfl (by kernel_rfl) (by kernel_rfl) (by kernel_rfl) (fun _ _ _ h => h) (by rfl) ?hy12_11 (by assumption) ?rest12_11
            case hy12_11 => (intro w_ hSw; (try dsimp only at hSw); go_simp; (try (with_reducible rfl)))
            (try simp only [List.getElem_toArray, List.getElem_cons_zero, List.getElem_cons_succ, Act.put, List.setIfInBounds_toArray, List.set_cons_zero, List.set_cons_succ])
            refine wpAnyH_go (i := 12) (v := ?v12_12) rfl (by kernel_rfl) (by kernel_rfl) (by kernel_rfl) (fun _ _ _ h => h) (by rfl) ?hy12_12 (by assumption) ?rest12_12
            case hy12_12 => (intro w_ hSw; (try dsimp only at hSw); go_simp; (try (with_reducible rfl)))
            (try simp only [List.getElem_toArray, List.getElem_cons_zero, List.getElem_cons_succ, Act.put, List.setIfInBounds_toArray, List.set_cons_zero, List.set_cons_succ])
            refine wpAnyH_ready (rs := [13]) (by kernel_rfl) (by simp) ?_
            refine AllReadyH.cons rfl (fun K hK => ?_) AllReadyH.nil
            go_simp
            (have hq := (‹_ ∧ _ ∧ Below _ _ _›).2.2; refine (s_CardOk d f _ _ _ ss _ ?_).mono ?_; exact (hs0B.below hq).more hq.size; rw [hck]; rintro e w2 ⟨rfl, hb2⟩)
            (try (go_wp2_with fail))
            refine hK.out _ _ ?_ (fun hHeld => ?_)
            · exact (keep_ofP bel)
            clear hK K
            (try simp only [List.getElem_toArray, List.getElem_cons_zero, List.getElem_cons_succ, Act.put, List.setIfInBounds_toArray, List.set_cons_zero, List.set_cons_succ])
            refine wpAnyH_go (i := 14) (v := ?v12_14) rfl (by kernel_rfl) (by kernel_rfl) (by kernel_rfl) (fun _ _ _ h => h) (by rfl) ?hy12_14 (by assumption) ?rest12_14
            case hy12_14 => (intro w_ hSw; (try dsimp only at hSw); go_simp; (try (with_reducible rfl)))
            (try simp only [List.getElem_toArray, List.getElem_cons_zero, List.getElem_cons_succ, Act.put, List.setIfInBounds_toArray, List.set_cons_zero, List.set_cons_succ])
            refine wpAnyH_go (i := 15) (v := ?v12_15) rfl (by kernel_rfl) (by kernel_rfl) (by kernel_rfl) (fun _ _ _ h => h) (by rfl) ?hy12_15 (by assumption) ?rest12_15
            case hy12_15 => (intro w_ hSw; (try dsimp only at hSw); go_simp; (try (with_reducible rfl)))
            (try simp only [List.getElem_toArray, List.getElem_cons_zero, List.getElem_cons_succ, Act.put, List.setIfInBounds_toArray, List.set_cons_zero, List.set_cons_succ])
            refine wpAnyH_go (i := 16) (v := ?v12_16) rfl (by kernel_rfl) (by kernel_rfl) (by kernel_rfl) (fun _ _ _ h => h) (by rfl) ?hy12_16 (by assumption) ?rest12_16
            case hy12_16 => (intro w_ hSw; (try dsimp only at hSw); go_simp; (try (with_reducible rfl)))
            (try simp only [List.getElem_toArray, List.getElem_cons_zero, List.getElem_cons_succ, Act.put, List.setIfInBounds_toArray, List.set_cons_zero, List.set_cons_succ])
            refine wpAnyH_go (i := 17) (v := ?v12_17) rfl (by kernel_rfl) (by kernel_rfl) (by kernel_rfl) (fun _ _ _ h => h) (by rfl) ?hy12_17 (by assumption) ?rest12_17
            case hy12_17 => (intro w_ hSw; (try dsimp only at hSw); go_simp; (try (with_reducible rfl)))
            (try simp only [List.getElem_toArray, List.getElem_cons_zero, List.getElem_cons_succ, Act.put, List.setIfInBounds_toArray, List.set_cons_zero, List.set_cons_succ])
            refine wpAnyH_go (i := 18) (v := ?v12_18) rfl (by kernel_rfl) (by kernel_rfl) (by kernel_rfl) (fun _ _ _ h => h) (by rfl) ?hy12_18 (by assumption) ?rest12_18
            case hy12_18 => (intro w_ hSw; (try dsimp only at hSw); go_simp; (try (with_reducible rfl)))
            (try simp only [List.getElem_toArray, List.getElem_cons_zero, List.getElem_cons_succ, Act.put, List.setIfInBounds_toArray, List.set_cons_zero, List.set_cons_succ])
            refine wpAnyH_go (i := 19) (v := ?v12_19) rfl (by kernel_rfl) (by kernel_rfl) (by kernel_rfl) (fun _ _ _ h => h) (by rfl) ?hy12_19 (by assumption) ?rest12_19
            case hy12_19 => (intro w_ hSw; (try dsimp only at hSw); go_simp; (try (with_reducible rfl)))
            (try simp only [List.getElem_toArray, List.getElem_cons_zero, List.getElem_cons_succ, Act.put, List.setIfInBounds_toArray, List.set_cons_zero, List.set_cons_succ])
            refine wpAnyH_skip (i := 20) rfl (by kernel_rfl) (by kernel_rfl) (by kernel_rfl) (fun _ _ _ h => h) (by rfl) (by assumption) ?_
            (try simp only [List.getElem_toArray, List.getElem_cons_zero, List.getElem_cons_succ, Act.put, List.setIfInBounds_toArray, List.set_cons_zero, List.set_cons_succ])
            refine wpAnyH_skip (i := 21) rfl (by kernel_rfl) (by kernel_rfl) (by kernel_rfl) (fun _ _ _ h => h) (by rfl) (by assumption) ?_
            (try simp only [List.getElem_toArray, List.getElem_cons_zero, List.getElem_cons_succ, Act.put, List.setIfInBounds_toArray, List.set_cons_zero, List.set_cons_succ])
            refine wpAnyH_skip (i := 22) rfl (by kernel_rfl) (by kernel_rfl) (by kernel_rfl) (fun _ _ _ h => h) (by rfl) (by assumption) ?_
            (try simp only [List.getElem_toArray, List.getElem_cons_zero, List.getElem_cons_succ, Act.put, List.setIfInBounds_toArray, List.set_cons_zero, List.set_cons_succ])
            refine wpAnyH_skip (i := 23) rfl (by kernel_rfl) (by kernel_rfl) (by kernel_rfl) (fun _ _ _ h => h) (by rfl) (by assumption) ?_
            (try simp only [List.getElem_toArray, List.getElem_cons_zero, List.getElem_cons_succ, Act.put, List.setIfInBounds_toArray, List.set_cons_zero, List.set_cons_succ])
            refine wpAnyH_skip (i := 24) rfl (by kernel_rfl) (by kernel_rfl) (by kernel_rfl) (fun _ _ _ h => h) (by rfl) (by assumption) ?_
            (try simp only [List.getElem_toArray, List.getElem_cons_zero, List.getElem_cons_succ, Act.put, List.setIfInBounds_toArray, List.set_cons_zero, List.set_cons_succ])
            refine wpAnyH_skip (i := 25) rfl (by kernel_rfl) (by kernel_rfl) (by kernel_rfl) (fun _ _ _ h => h) (by rfl) (by assumption) ?_
            (try simp only [List.getElem_toArray, List.getElem_cons_zero, List.getElem_cons_succ, Act.put, List.setIfInBounds_toArray, List.set_cons_zero, List.set_cons_succ])
            refine wpAnyH_skip (i := 26) rfl (by kernel_rfl) (by kernel_rfl) (by kernel_rfl) (fun _ _ _ h => h) (by rfl) (by assumption) ?_
            (try simp only [List.getElem_toArray, List.getElem_cons_zero, List.getElem_cons_succ, Act.put, List.setIfInBounds_toArray, List.set_cons_zero, List.set_cons_succ])
            refine wpAnyH_skip (i := 27) rfl (by kernel_rfl) (by kernel_rfl) (by kernel_rfl) (fun _ _ _ h => h) (by rfl) (by assumption) ?_
            (try simp only [List.getElem_toArray, List.getElem_cons_zero, List.getElem_cons_succ, Act.put, List.setIfInBounds_toArray, List.set_cons_zero, List.set_cons_succ])
            refine wpAnyH_skip (i := 28) rfl (by kernel_rfl) (by kernel_rfl) (by kernel_rfl) (fun _ _ _ h => h) (by rfl) (by assumption) ?_
            (try simp only [List.getElem_toArray, List.getElem_cons_zero, List.getElem_cons_succ, Act.put, List.setIfInBounds_toArray, List.set_cons_zero, List.set_cons_succ])
            refine wpAnyH_skip (i := 29) rfl (by kernel_rfl) (by kernel_rfl) (by kernel_rfl) (fun _ _ _ h => h) (by rfl) (by assumption) ?_
            (try simp only [List.getElem_toArray, List.getElem_cons_zero, List.getElem_cons_succ, Act.put, List.setIfInBounds_toArray, List.set_cons_zero, List.set_cons_succ])
            refine wpAnyH_skip (i := 30) rfl (by kernel_rfl) (by kernel_rfl) (by kernel_rfl) (fun _ _ _ h => h) (by rfl) (by assumption) ?_
            (try simp only [List.getElem_toArray, List.getElem_cons_zero, List.getElem_cons_succ, Act.put, List.setIfInBounds_toArray, List.set_cons_zero, List.set_cons_succ])
            refine wpAnyH_skip (i := 31) rfl (by kernel_rfl) (by kernel_rfl) (by kernel_rfl) (fun _ _ _ h => h) (by rfl) (by assumption) ?_
            (try simp only [List.getElem_toArray, List.getElem_cons_zero, List.getElem_cons_succ, Act.put, List.setIfInBounds_toArray, List.set_cons_zero, List.set_cons_succ])
            refine wpAnyH_go (i := 32) (v := ?v12_32) rfl (by kernel_rfl) (by kernel_rfl) (by kernel_rfl) (fun _ _ _ h => h) (by rfl) ?hy12_32 (by assumption) ?rest12_32
            case hy12_32 => (intro w_ hSw; (try dsimp only at hSw); go_simp; (try (with_reducible rfl)))
            (try simp only [List.getElem_toArray, List.getElem_cons_zero, List.getElem_cons_succ, Act.put, List.setIfInBounds_toArray, List.set_cons_zero, List.set_cons_succ])
            refine wpAnyH_go (i := 33) (v := ?v12_33) rfl (by kernel_rfl) (by kernel_rfl) (by kernel_rfl) (fun _ _ _ h => h) (by rfl) ?hy12_33 (by assumption) ?rest12_33
            case hy12_33 => (intro w_ hSw; (try dsimp only at hSw); go_simp; (try (with_reducible rfl)))
            (try simp only [List.getElem_toArray, List.getElem_cons_zero, List.getElem_cons_succ, Act.put, List.setIfInBounds_toArray, List.set_cons_zero, List.set_cons_succ])
            refine wpAnyH_done (by kernel_rfl) ?_ _
            refine NoPanic.normal ?_
            all_goals (
              go_wp2
              go_roundw
              case rel => exact ⟨j + 1, by omega, by go_num, all_range_succ HA.out (by rw [itGood_z HJ0.out HX.out]; simp [hnok, hck]), hb.trans ((hbW.trans (Below.mono (by first | exact hb2 | exact (Below.refl _ _).drew.trans hb2 | exact below_drewN hb2 _ | exact (below_drewN (Below.refl _ _) _).trans hb2 | exact bel) hq2)).mono hzr)⟩
              case measure => simp [intOf]; omega)
          · obtain ⟨K, hK⟩ : ∃ K, j = K + 1 := ⟨j - 1, by omega⟩; obtain ⟨hkq, adq, hade, habq, hq0, hq1_, hq2_, hq3_, hssq, hnmq⟩ := hSr.at_ (k := K) (by omega)
            have hKn : K < n := by omega
            have HK := Lib.hid hK
            have hwk : IntKind.i64.wrap ((j : Int) - 1) = K := by rw [show (j : Int) - 1 = (K : Int) by omega, IntWalk.i64_in _ (by omega)]
            have hjp : 0 < j := by omega
            have hdj : decide (0 < j) = true := by simp [hjp]
            have hkn1 : (0 : Int) ≤ (K : Int) := by omega
            have hkn2 : (K : Int) < n := by omega
            clear hK hj0
            have hadq : adq = ad := by injection hade with h; exact h.symm
            rw [hadq] at hq0
            clear hq1_ hq2_ hq3_ hssq hade habq hadq
            have HXP := Lib.hid (show P[K]? = some L[K].x by rw [← HP.out]; exact plI_at hkq)
            obtain ⟨nq, hnq⟩ : ∃ a, a = L[K].x.nm := ⟨_, rfl⟩
            rw [← hnq] at hq0 hnmq
            have hpc := hq0
            have HNQ := Lib.hid hnq
            clear hq0 hnq
            cases hl1 : Op.bytesLess nm.toList nq.toList
            · cases hl2 : (nm.toList == nq.toList)
              · skip
                have hqn := fun W => s_NameOk nm W hnm
                simp only [hnok] at hqn
                have HQN := hide hqn
                clear hqn
                go_wp2
                have hs0 := hss
                obtain ⟨w0, hw0⟩ : ∃ W, W = wr := ⟨_, rfl⟩
                have hbW : Below wr.heap.size wr w0 := by rw [hw0]; exact Below.refl _ _
                rw [← hw0] at hs0 hc0 hc1 hc2 hc3 ⊢
                rw [← hw0] at hpc
                have hq2 : wr.heap.size ≤ w0.heap.size := hbW.size
                have hq1 : (ad.add (j * 4)).block < w0.heap.size := by rw [block_of_add]; omega
                have hpq2 : (ad.add (K * 4)).block < w0.heap.size := (by rw [block_of_add]; omega)
                clear hw0
                have hs0B := hs0.more (B' := w0.heap.size) (by omega)
                refine wp_region_noPanic ?_
                refine wp_region_held_drew (S := (fun W => (∀ p : Addr, p.block < w0.heap.size → W.cell? p = w0.cell? p) ∧ (∀ p : Addr, p.block < w0.heap.size → W.frozen? p = w0.frozen? p) ∧ Below w0.heap.size w0 W)) (by kernel_rfl) ?_ (fun hHeld => ?_)
                · exact (keep_ofP bel)
                refine wpAnyH_go (i := 0) (v := ?v13_0) rfl (by kernel_rfl) (by kernel_rfl) (by kernel_rfl) (fun _ _ _ h => h) (by rfl) ?hy13_0 (by assumption) ?rest13_0
                case hy13_0 => (intro w_ hSw; (try dsimp only at hSw); go_simp; (try (with_reducible rfl)))
                (try simp only [List.getElem_toArray, List.getElem_cons_zero, Act.put, List.setIfInBounds_toArray, List.set_cons_zero, List.set_cons_succ])
                refine wpAnyH_go (i := 1) (v := ?v13_1) rfl (by kernel_rfl) (by kernel_rfl) (by kernel_rfl) (fun _ _ _ h => h) (by rfl) ?hy13_1 (by assumption) ?rest13_1
                case hy13_1 => (intro w_ hSw; (try dsimp only at hSw); go_simp; (try (with_reducible rfl)))
                (try simp only [List.getElem_toArray, List.getElem_cons_zero, List.getElem_cons_succ, Act.put, List.setIfInBounds_toArray, List.set_cons_zero, List.set_cons_succ])
                refine wpAnyH_go (i := 2) (v := ?v13_2) rfl (by kernel_rfl) (by kernel_rfl) (by kernel_rfl) (fun _ _ _ h => h) (by rfl) ?hy13_2 (by assumption) ?rest13_2
                case hy13_2 => (intro w_ hSw; (try dsimp only at hSw); go_simp; (try (with_reducible rfl)))
                (try simp only [List.getElem_toArray, List.getElem_cons_zero, List.getElem_cons_succ, Act.put, List.setIfInBounds_toArray, List.set_cons_zero, List.set_cons_succ])
                refine wpAnyH_go (i := 3) (v := ?v13_3) rfl (by kernel_rfl) (by kernel_rfl) (by kernel_rfl) (fun _ _ _ h => h) (by rfl) ?hy13_3 (by assumption) ?rest13_3
                case hy13_3 => (intro w_ hSw; (try dsimp only at hSw); go_simp; (try (with_reducible rfl)))
                (try simp only [List.getElem_toArray, List.getElem_cons_zero, List.getElem_cons_succ, Act.put, List.setIfInBounds_toArray, List.set_cons_zero, List.set_cons_succ])
                refine wpAnyH_go (i := 4) (v := ?v13_4) rfl (by kernel_rfl) (by kernel_rfl) (by kernel_rfl) (fun _ _ _ h => h) (by rfl) ?hy13_4 (by assumption) ?rest13_4
                case hy13_4 => (intro w_ hSw; (try dsimp only at hSw); go_simp; (try (with_reducible rfl)))
                (try simp only [List.getElem_toArray, List.getElem_cons_zero, List.getElem_cons_succ, Act.put, List.setIfInBounds_toArray, List.set_cons_zero, List.set_cons_succ])
                refine wpAnyH_ready (rs := [5]) (by kernel_rfl) (by simp) ?_
                refine AllReadyH.cons rfl (fun K hK => ?_) AllReadyH.nil
                go_simp
                (refine (unhide HQN _).mono ?_; rintro e w' ⟨rfl, rfl⟩)
                (try (go_wp2_with fail))
                refine hK.out _ _ ?_ (fun hHeld => ?_)
                · exact (keep_ofP bel)
                clear hK K
                (try simp only [List.getElem_toArray, List.getElem_cons_zero, List.getElem_cons_succ, Act.put, List.setIfInBounds_toArray, List.set_cons_zero, List.set_cons_succ])
                refine wpAnyH_go (i := 6) (v := ?v13_6) rfl (by kernel_rfl) (by kernel_rfl) (by kernel_rfl) (fun _ _ _ h => h) (by rfl) ?hy13_6 (by assumption) ?rest13_6
                case hy13_6 => (intro w_ hSw; (try dsimp only at hSw); go_simp; (try (with_reducible rfl)))
                (try simp only [List.getElem_toArray, List.getElem_cons_zero, List.getElem_cons_succ, Act.put, List.setIfInBounds_toArray, List.set_cons_zero, List.set_cons_succ])
                refine wpAnyH_go (i := 7) (v := ?v13_7) rfl (by kernel_rfl) (by kernel_rfl) (by kernel_rfl) (fun _ _ _ h => h) (by rfl) ?hy13_7 (by assumption) ?rest13_7
                case hy13_7 => (intro w_ hSw; (try dsimp only at hSw); go_simp; (try (with_reducible rfl)))
                (try simp only [List.getElem_toArray, List.getElem_cons_zero, List.getElem_cons_succ, Act.put, List.setIfInBounds_toArray, List.set_cons_zero, List.set_cons_succ])
                refine wpAnyH_go (i := 8) (v := ?v13_8) rfl (by kernel_rfl) (by kernel_rfl) (by kernel_rfl) (fun _ _ _ h => h) (by rfl) ?hy13_8 (by assumption) ?rest13_8
                case hy13_8 => (intro w_ hSw; (try dsimp only at hSw); go_simp; (try (with_reducible rfl)))
                (try simp only [List.getElem_toArray, List.getElem_cons_zero, List.getElem_cons_succ, Act.put, List.setIfInBounds_toArray, List.set_cons_zero, List.set_cons_succ])
                refine wpAnyH_go (i := 9) (v := ?v13_9) rfl (by kernel_rfl) (by kernel_rfl) (by kernel_rfl) (fun _ _ _ h => h) (by rfl) ?hy13_9 (by assumption) ?rest13_9
                case hy13_9 => (intro w_ hSw; (try dsimp only at hSw); go_simp; (try (with_reducible rfl)))
                (try simp only [List.getElem_toArray, List.getElem_cons_zero, List.getElem_cons_succ, Act.put, List.setIfInBounds_toArray, List.set_cons_zero, List.set_cons_succ])
                refine wpAnyH_go (i := 10) (v := ?v13_10) rfl (by kernel_rfl) (by kernel_rfl) (by kernel_rfl) (fun _ _ _ h => h) (by rfl) ?hy13_10 (by assumption) ?rest13_10
                case hy13_10 => (intro w_ hSw; (try dsimp only at hSw); go_simp; (try (with_reducible rfl)))
                (try simp only [List.getElem_toArray, List.getElem_cons_zero, List.getElem_cons_succ, Act.put, List.setIfInBounds_toArray, List.set_cons_zero, List.set_cons_succ])
                refine wpAnyH_go (i := 11) (v := ?v13_11) rfl (by kernel_rfl) (by kernel_rfl) (by kernel_rfl) (fun _ _ _ h => h) (by rfl) ?hy13_11 (by assumption) ?rest13_11
                case hy13_11 => (intro w_ hSw; (try dsimp only at hSw); go_simp; (try (with_reducible rfl)))
                (try simp only [List.getElem_toArray, List.getElem_cons_zero, List.getElem_cons_succ, Act.put, List.setIfInBounds_toArray, List.set_cons_zero, List.set_cons_succ])
                refine wpAnyH_go (i := 12) (v := ?v13_12) rfl (by kernel_rfl) (by kernel_rfl) (by kernel_rfl) (fun _ _ _ h => h) (by rfl) ?hy13_12 (by assumption) ?rest13_12
                case hy13_12 => (intro w_ hSw; (try dsimp only at hSw); go_simp; (try (with_reducible rfl)))
                (try simp only [List.getElem_toArray, List.getElem_cons_zero, List.getElem_cons_succ, Act.put, List.setIfInBounds_toArray, List.set_cons_zero, List.set_cons_succ])
                refine wpAnyH_ready (rs := [13]) (by kernel_rfl) (by simp) ?_
                refine AllReadyH.cons rfl (fun K hK => ?_) AllReadyH.nil
                go_simp
                (have hq := (‹_ ∧ _ ∧ Below _ _ _›).2.2; refine (s_CardOk d f _ _ _ ss _ ?_).mono ?_; exact (hs0B.below hq).more hq.size; rw [hck]; rintro e w2 ⟨rfl, hb2⟩)
                (try (go_wp2_with fail))
                refine hK.out _ _ ?_ (fun hHeld => ?_)
                · exact (keep_ofP bel)
                clear hK K
                (try simp only [List.getElem_toArray, List.getElem_cons_zero, List.getElem_cons_succ, Act.put, List.setIfInBounds_toArray, List.set_cons_zero, List.set_cons_succ])
                refine wpAnyH_go (i := 14) (v := ?v13_14) rfl (by kernel_rfl) (by kernel_rfl) (by kernel_rfl) (fun _ _ _ h => h) (by rfl) ?hy13_14 (by assumption) ?rest13_14
                case hy13_14 => (intro w_ hSw; (try dsimp only at hSw); go_simp; (try (with_reducible rfl)))
                (try simp only [List.getElem_toArray, List.getElem_cons_zero, List.getElem_cons_succ, Act.put, List.setIfInBounds_toArray, List.set_cons_zero, List.set_cons_succ])
                refine wpAnyH_go (i := 15) (v := ?v13_15) rfl (by kernel_rfl) (by kernel_rfl) (by kernel_rfl) (fun _ _ _ h => h) (by rfl) ?hy13_15 (by assumption) ?rest13_15
                case hy13_15 => (intro w_ hSw; (try dsimp only at hSw); go_simp; (try (with_reducible rfl)))
                (try simp only [List.getElem_toArray, List.getElem_cons_zero, List.getElem_cons_succ, Act.put, List.setIfInBounds_toArray, List.set_cons_zero, List.set_cons_succ])
                refine wpAnyH_go (i := 16) (v := ?v13_16) rfl (by kernel_rfl) (by kernel_rfl) (by kernel_rfl) (fun _ _ _ h => h) (by rfl) ?hy13_16 (by assumption) ?rest13_16
                case hy13_16 => (intro w_ hSw; (try dsimp only at hSw); go_simp; (try (with_reducible rfl)))
                (try simp only [List.getElem_toArray, List.getElem_cons_zero, List.getElem_cons_succ, Act.put, List.setIfInBounds_toArray, List.set_cons_zero, List.set_cons_succ])
                refine wpAnyH_go (i := 17) (v := ?v13_17) rfl (by kernel_rfl) (by kernel_rfl) (by kernel_rfl) (fun _ _ _ h => h) (by rfl) ?hy13_17 (by assumption) ?rest13_17
                case hy13_17 => (intro w_ hSw; (try dsimp only at hSw); go_simp; (try (with_reducible rfl)))
                (try simp only [List.getElem_toArray, List.getElem_cons_zero, List.getElem_cons_succ, Act.put, List.setIfInBounds_toArray, List.set_cons_zero, List.set_cons_succ])
                refine wpAnyH_go (i := 18) (v := ?v13_18) rfl (by kernel_rfl) (by kernel_rfl) (by kernel_rfl) (fun _ _ _ h => h) (by rfl) ?hy13_18 (by assumption) ?rest13_18
                case hy13_18 => (intro w_ hSw; (try dsimp only at hSw); go_simp; (try (with_reducible rfl)))
                (try simp only [List.getElem_toArray, List.getElem_cons_zero, List.getElem_cons_succ, Act.put, List.setIfInBounds_toArray, List.set_cons_zero, List.set_cons_succ])
                refine wpAnyH_go (i := 19) (v := ?v13_19) rfl (by kernel_rfl) (by kernel_rfl) (by kernel_rfl) (fun _ _ _ h => h) (by rfl) ?hy13_19 (by assumption) ?rest13_19
                case hy13_19 => (intro w_ hSw; (try dsimp only at hSw); go_simp; (try (with_reducible rfl)))
                (try simp only [List.getElem_toArray, List.getElem_cons_zero, List.getElem_cons_succ, Act.put, List.setIfInBounds_toArray, List.set_cons_zero, List.set_cons_succ])
                refine wpAnyH_go (i := 20) (v := ?v13_20) rfl (by kernel_rfl) (by kernel_rfl) (by kernel_rfl) (fun _ _ _ h => h) (by rfl) ?hy13_20 (by assumption) ?rest13_20
                case hy13_20 => (intro w_ hSw; (try dsimp only at hSw); go_simp; (try (with_reducible rfl)))
                (try simp only [List.getElem_toArray, List.getElem_cons_zero, List.getElem_cons_succ, Act.put, List.setIfInBounds_toArray, List.set_cons_zero, List.set_cons_succ])
                refine wpAnyH_go (i := 21) (v := ?v13_21) rfl (by kernel_rfl) (by kernel_rfl) (by kernel_rfl) (fun _ _ _ h => h) (by rfl) ?hy13_21 (by assumption) ?rest13_21
                case hy13_21 => (intro w_ hSw; (try dsimp only at hSw); go_simp; (try (with_reducible rfl)))
                (try simp only [List.getElem_toArray, List.getElem_cons_zero, List.getElem_cons_succ, Act.put, List.setIfInBounds_toArray, List.set_cons_zero, List.set_cons_succ])
                refine wpAnyH_go (i := 22) (v := ?v13_22) rfl (by kernel_rfl) (by kernel_rfl) (by kernel_rfl) (fun _ _ _ h => h) (by rfl) ?hy13_22 (by assumption) ?rest13_22
                case hy13_22 => (intro w_ hSw; (try dsimp only at hSw); go_simp; (try (with_reducible rfl)))
                (try simp only [List.getElem_toArray, List.getElem_cons_zero, List.getElem_cons_succ, Act.put, List.setIfInBounds_toArray, List.set_cons_zero, List.set_cons_succ])
                refine wpAnyH_go (i := 23) (v := ?v13_23) rfl (by kernel_rfl) (by kernel_rfl) (by kernel_rfl) (fun _ _ _ h => h) (by rfl) ?hy13_23 (by assumption) ?rest13_23
                case hy13_23 => (intro w_ hSw; (try dsimp only at hSw); go_simp; (try (with_reducible rfl)))
                (try simp only [List.getElem_toArray, List.getElem_cons_zero, List.getElem_cons_succ, Act.put, List.setIfInBounds_toArray, List.set_cons_zero, List.set_cons_succ])
                refine wpAnyH_go (i := 24) (v := ?v13_24) rfl (by kernel_rfl) (by kernel_rfl) (by kernel_rfl) (fun _ _ _ h => h) (by rfl) ?hy13_24 (by assumption) ?rest13_24
                case hy13_24 => (intro w_ hSw; (try dsimp only at hSw); go_simp; (try (with_reducible rfl)))
                (try simp only [List.getElem_toArray, List.getElem_cons_zero, List.getElem_cons_succ, Act.put, List.setIfInBounds_toArray, List.set_cons_zero, List.set_cons_succ])
                refine wpAnyH_go (i := 25) (v := ?v13_25) rfl (by kernel_rfl) (by kernel_rfl) (by kernel_rfl) (fun _ _ _ h => h) (by rfl) ?hy13_25 (by assumption) ?rest13_25
                case hy13_25 => (intro w_ hSw; (try dsimp only at hSw); go_simp; (try (with_reducible rfl)))
                (try simp only [List.getElem_toArray, List.getElem_cons_zero, List.getElem_cons_succ, Act.put, List.setIfInBounds_toArray, List.set_cons_zero, List.set_cons_succ])
                refine wpAnyH_go (i := 26) (v := ?v13_26) rfl (by kernel_rfl) (by kernel_rfl) (by kernel_rfl) (fun _ _ _ h => h) (by rfl) ?hy13_26 (by assumption) ?rest13_26
                case hy13_26 => (intro w_ hSw; (try dsimp only at hSw); go_simp; (try (with_reducible rfl)))
                (try simp only [List.getElem_toArray, List.getElem_cons_zero, List.getElem_cons_succ, Act.put, List.setIfInBounds_toArray, List.set_cons_zero, List.set_cons_succ])
                refine wpAnyH_go (i := 27) (v := ?v13_27) rfl (by kernel_rfl) (by kernel_rfl) (by kernel_rfl) (fun _ _ _ h => h) (by rfl) ?hy13_27 (by assumption) ?rest13_27
                case hy13_27 => (intro w_ hSw; (try dsimp only at hSw); go_simp; (try (with_reducible rfl)))
                (try simp only [List.getElem_toArray, List.getElem_cons_zero, List.getElem_cons_succ, Act.put, List.setIfInBounds_toArray, List.set_cons_zero, List.set_cons_succ])
                refine wpAnyH_go (i := 28) (v := ?v13_28) rfl (by kernel_rfl) (by kernel_rfl) (by kernel_rfl) (fun _ _ _ h => h) (by rfl) ?hy13_28 (by assumption) ?rest13_28
                case hy13_28 => (intro w_ hSw; (try dsimp only at hSw); go_simp; (try (with_reducible rfl)))
                (try simp only [List.getElem_toArray, List.getElem_cons_zero, List.getElem_cons_succ, Act.put, List.setIfInBounds_toArray, List.set_cons_zero, List.set_cons_succ])
                refine wpAnyH_go (i := 29) (v := ?v13_29) rfl (by kernel_rfl) (by kernel_rfl) (by kernel_rfl) (fun _ _ _ h => h) (by rfl) ?hy13_29 (by assumption) ?rest13_29
                case hy13_29 => (intro w_ hSw; (try dsimp only at hSw); go_simp; (try (with_reducible rfl)))
                (try simp only [List.getElem_toArray, List.getElem_cons_zero, List.getElem_cons_succ, Act.put, List.setIfInBounds_toArray, List.set_cons_zero, List.set_cons_succ])
                refine wpAnyH_go (i := 30) (v := ?v13_30) rfl (by kernel_rfl) (by kernel_rfl) (by kernel_rfl) (fun _ _ _ h => h) (by rfl) ?hy13_30 (by assumption) ?rest13_30
                case hy13_30 => (intro w_ hSw; (try dsimp only at hSw); go_simp; (try (with_reducible rfl)))
                (try simp only [List.getElem_toArray, List.getElem_cons_zero, List.getElem_cons_succ, Act.put, List.setIfInBounds_toArray, List.set_cons_zero, List.set_cons_succ])
                refine wpAnyH_go (i := 31) (v := ?v13_31) rfl (by kernel_rfl) (by kernel_rfl) (by kernel_rfl) (fun _ _ _ h => h) (by rfl) ?hy13_31 (by assumption) ?rest13_31
                case hy13_31 => (intro w_ hSw; (try dsimp only at hSw); go_simp; (try (with_reducible rfl)))
                (try simp only [List.getElem_toArray, List.getElem_cons_zero, List.getElem_cons_succ, Act.put, List.setIfInBounds_toArray, List.set_cons_zero, List.set_cons_succ])
                refine wpAnyH_go (i := 32) (v := ?v13_32) rfl (by kernel_rfl) (by kernel_rfl) (by kernel_rfl) (fun _ _ _ h => h) (by rfl) ?hy13_32 (by assumption) ?rest13_32
                case hy13_32 => (intro w_ hSw; (try dsimp only at hSw); go_simp; (try (with_reducible rfl)))
                (try simp only [List.getElem_toArray, List.getElem_cons_zero, List.getElem_cons_succ, Act.put, List.setIfInBounds_toArray, List.set_cons_zero, List.set_cons_succ])
                refine wpAnyH_go (i := 33) (v := ?v13_33) rfl (by kernel_rfl) (by kernel_rfl) (by kernel_rfl) (fun _ _ _ h => h) (by rfl) ?hy13_33 (by assumption) ?rest13_33
                case hy13_33 => (intro w_ hSw; (try dsimp only at hSw); go_simp; (try (with_reducible rfl)))
                (try simp only [List.getElem_toArray, List.getElem_cons_zero, List.getElem_cons_succ, Act.put, List.setIfInBounds_toArray, List.set_cons_zero, List.set_cons_succ])
                refine wpAnyH_done (by kernel_rfl) ?_ _
                refine NoPanic.normal ?_
                all_goals (
                  go_wp2
                  go_roundw
                  case rel => exact ⟨j + 1, by omega, by go_num, all_range_succ HA.out (by rw [itGood_j HK.out HX.out HXP.out]; simp [hnok, hck, nmLe, ← HNQ.out, hl1, hl2]), hb.trans ((hbW.trans (Below.mono (by first | exact hb2 | exact (Below.refl _ _).drew.trans hb2 | exact below_drewN hb2 _ | exact (below_drewN (Below.refl _ _) _).trans hb2 | exact bel) hq2)).mono hzr)⟩
                  case measure => simp [intOf]; omega)
              · have HF := Lib.hid (catOk_no (unhide HKP) (by rw [itGood_j HK.out HX.out HXP.out]; simp [nmLe, ← HNQ.out, hl1, hl2]))
                have hqn := fun W => s_NameOk nm W hnm
                simp only [hnok] at hqn
                have HQN := hide hqn
                clear hqn
                go_wp2
                have hs0 := hss
                obtain ⟨w0, hw0⟩ : ∃ W, W = wr := ⟨_, rfl⟩
                have hbW : Below wr.heap.size wr w0 := by rw [hw0]; exact Below.refl _ _
                rw [← hw0] at hs0 hc0 hc1 hc2 hc3 ⊢
                rw [← hw0] at hpc
                have hq2 : wr.heap.size ≤ w0.heap.size := hbW.size
                have hq1 : (ad.add (j * 4)).block < w0.heap.size := by rw [block_of_add]; omega
                have hpq2 : (ad.add (K * 4)).block < w0.heap.size := (by rw [block_of_add]; omega)
                clear hw0
                have hs0B := hs0.more (B' := w0.heap.size) (by omega)
                refine wp_region_noPanic ?_
                refine wp_region_held_drew (S := (fun W => (∀ p : Addr, p.block < w0.heap.size → W.cell? p = w0.cell? p) ∧ (∀ p : Addr, p.block < w0.heap.size → W.frozen? p = w0.frozen? p) ∧ Below w0.heap.size w0 W)) (by kernel_rfl) ?_ (fun hHeld => ?_)
                · exact (keep_ofP bel)
                refine wpAnyH_go (i := 0) (v := ?v14_0) rfl (by kernel_rfl) (by kernel_rfl) (by kernel_rfl) (fun _ _ _ h => h) (by rfl) ?hy14_0 (by assumption) ?rest14_0
                case hy14_0 => (intro w_ hSw; (try dsimp only at hSw); go_simp; (try (with_reducible rfl)))
                (try simp only [List.getElem_toArray, List.getElem_cons_zero, Act.put, List.setIfInBounds_toArray, List.set_cons_zero, List.set_cons_succ])
                refine wpAnyH_go (i := 1) (v := ?v14_1) rfl (by kernel_rfl) (by kernel_rfl) (by kernel_rfl) (fun _ _ _ h => h) (by rfl) ?hy14_1 (by assumption) ?rest14_1
                case hy14_1 => (intro w_ hSw; (try dsimp only at hSw); go_simp; (try (with_reducible rfl)))
                (try simp only [List.getElem_toArray, List.getElem_cons_zero, List.getElem_cons_succ, Act.put, List.setIfInBounds_toArray, List.set_cons_zero, List.set_cons_succ])
                refine wpAnyH_go (i := 2) (v := ?v14_2) rfl (by kernel_rfl) (by kernel_rfl) (by kernel_rfl) (fun _ _ _ h => h) (by rfl) ?hy14_2 (by assumption) ?rest14_2
                case hy14_2 => (intro w_ hSw; (try dsimp only at hSw); go_simp; (try (with_reducible rfl)))
                (try simp only [List.getElem_toArray, List.getElem_cons_zero, List.getElem_cons_succ, Act.put, List.setIfInBounds_toArray, List.set_cons_zero, List.set_cons_succ])
                refine wpAnyH_go (i := 3) (v := ?v14_3) rfl (by kernel_rfl) (by kernel_rfl) (by kernel_rfl) (fun _ _ _ h => h) (by rfl) ?hy14_3 (by assumption) ?rest14_3
                case hy14_3 => (intro w_ hSw; (try dsimp only at hSw); go_simp; (try (with_reducible rfl)))
                (try simp only [List.getElem_toArray, List.getElem_cons_zero, List.getElem_cons_succ, Act.put, List.setIfInBounds_toArray, List.set_cons_zero, List.set_cons_succ])
                refine wpAnyH_go (i := 4) (v := ?v14_4) rfl (by kernel_rfl) (by kernel_rfl) (by kernel_rfl) (fun _ _ _ h => h) (by rfl) ?hy14_4 (by assumption) ?rest14_4
                case hy14_4 => (intro w_ hSw; (try dsimp only at hSw); go_simp; (try (with_reducible rfl)))
                (try simp only [List.getElem_toArray, List.getElem_cons_zero, List.getElem_cons_succ, Act.put, List.setIfInBounds_toArray, List.set_cons_zero, List.set_cons_succ])
                refine wpAnyH_ready (rs := [5]) (by kernel_rfl) (by simp) ?_
                refine AllReadyH.cons rfl (fun K hK => ?_) AllReadyH.nil
                go_simp
                (refine (unhide HQN _).mono ?_; rintro e w' ⟨rfl, rfl⟩)
                (try (go_wp2_with fail))
                refine hK.out _ _ ?_ (fun hHeld => ?_)
                · exact (keep_ofP bel)
                clear hK K
                (try simp only [List.getElem_toArray, List.getElem_cons_zero, List.getElem_cons_succ, Act.put, List.setIfInBounds_toArray, List.set_cons_zero, List.set_cons_succ])
                refine wpAnyH_go (i := 6) (v := ?v14_6) rfl (by kernel_rfl) (by kernel_rfl) (by kernel_rfl) (fun _ _ _ h => h) (by rfl) ?hy14_6 (by assumption) ?rest14_6
                case hy14_6 => (intro w_ hSw; (try dsimp only at hSw); go_simp; (try (with_reducible rfl)))
                (try simp only [List.getElem_toArray, List.getElem_cons_zero, List.getElem_cons_succ, Act.put, List.setIfInBounds_toArray, List.set_cons_zero, List.set_cons_succ])
                refine wpAnyH_go (i := 7) (v := ?v14_7) rfl (by kernel_rfl) (by kernel_rfl) (by kernel_rfl) (fun _ _ _ h => h) (by rfl) ?hy14_7 (by assumption) ?rest14_7
                case hy14_7 => (intro w_ hSw; (try dsimp only at hSw); go_simp; (try (with_reducible rfl)))
                (try simp only [List.getElem_toArray, List.getElem_cons_zero, List.getElem_cons_succ, Act.put, List.setIfInBounds_toArray, List.set_cons_zero, List.set_cons_succ])
                refine wpAnyH_go (i := 8) (v := ?v14_8) rfl (by kernel_rfl) (by kernel_rfl) (by kernel_rfl) (fun _ _ _ h => h) (by rfl) ?hy14_8 (by assumption) ?rest14_8
                case hy14_8 => (intro w_ hSw; (try dsimp only at hSw); go_simp; (try (with_reducible rfl)))
                (try simp only [List.getElem_toArray, List.getElem_cons_zero, List.getElem_cons_succ, Act.put, List.setIfInBounds_toArray, List.set_cons_zero, List.set_cons_succ])
                refine wpAnyH_go (i := 9) (v := ?v14_9) rfl (by kernel_rfl) (by kernel_rfl) (by kernel_rfl) (fun _ _ _ h => h) (by rfl) ?hy14_9 (by assumption) ?rest14_9
                case hy14_9 => (intro w_ hSw; (try dsimp only at hSw); go_simp; (try (with_reducible rfl)))
                (try simp only [List.getElem_toArray, List.getElem_cons_zero, List.getElem_cons_succ, Act.put, List.setIfInBounds_toArray, List.set_cons_zero, List.set_cons_succ])
                refine wpAnyH_go (i := 10) (v := ?v14_10) rfl (by kernel_rfl) (by kernel_rfl) (by kernel_rfl) (fun _ _ _ h => h) (by rfl) ?hy14_10 (by assumption) ?rest14_10
                case hy14_10 => (intro w_ hSw; (try dsimp only at hSw); go_simp; (try (with_reducible rfl)))
                (try simp only [List.getElem_toArray, List.getElem_cons_zero, List.getElem_cons_succ, Act.put, List.setIfInBounds_toArray, List.set_cons_zero, List.set_cons_succ])
                refine wpAnyH_go (i := 11) (v := ?v14_11) rfl (by kernel_rfl) (by kernel_rfl) (by kernel_rfl) (fun _ _ _ h => h) (by rfl) ?hy14_11 (by assumption) ?rest14_11
                case hy14_11 => (intro w_ hSw; (try dsimp only at hSw); go_simp; (try (with_reducible rfl)))
                (try simp only [List.getElem_toArray, List.getElem_cons_zero, List.getElem_cons_succ, Act.put, List.setIfInBounds_toArray, List.set_cons_zero, List.set_cons_succ])
                refine wpAnyH_go (i := 12) (v := ?v14_12) rfl (by kernel_rfl) (by kernel_rfl) (by kernel_rfl) (fun _ _ _ h => h) (by rfl) ?hy14_12 (by assumption) ?rest14_12
                case hy14_12 => (intro w_ hSw; (try dsimp only at hSw); go_simp; (try (with_reducible rfl)))
                (try simp only [List.getElem_toArray, List.getElem_cons_zero, List.getElem_cons_succ, Act.put, List.setIfInBounds_toArray, List.set_cons_zero, List.set_cons_succ])
                refine wpAnyH_ready (rs := [13]) (by kernel_rfl) (by simp) ?_
                refine AllReadyH.cons rfl (fun K hK => ?_) AllReadyH.nil
                go_simp
                (have hq := (‹_ ∧ _ ∧ Below _ _ _›).2.2; refine (s_CardOk d f _ _ _ ss _ ?_).mono ?_; exact (hs0B.below hq).more hq.size; rw [hck]; rintro e w2 ⟨rfl, hb2⟩)
                (try (go_wp2_with fail))
                refine hK.out _ _ ?_ (fun hHeld => ?_)
                · exact (keep_ofP bel)
                clear hK K
                (try simp only [List.getElem_toArray, List.getElem_cons_zero, List.getElem_cons_succ, Act.put, List.setIfInBounds_toArray, List.set_cons_zero, List.set_cons_succ])
                refine wpAnyH_go (i := 14) (v := ?v14_14) rfl (by kernel_rfl) (by kernel_rfl) (by kernel_rfl) (fun _ _ _ h => h) (by rfl) ?hy14_14 (by assumption) ?rest14_14
                case hy14_14 => (intro w_ hSw; (try dsimp only at hSw); go_simp; (try (with_reducible rfl)))
                (try simp only [List.getElem_toArray, List.getElem_cons_zero, List.getElem_cons_succ, Act.put, List.setIfInBounds_toArray, List.set_cons_zero, List.set_cons_succ])
                refine wpAnyH_go (i := 15) (v := ?v14_15) rfl (by kernel_rfl) (by kernel_rfl) (by kernel_rfl) (fun _ _ _ h => h) (by rfl) ?hy14_15 (by assumption) ?rest14_15
                case hy14_15 => (intro w_ hSw; (try dsimp only at hSw); go_simp; (try (with_reducible rfl)))
                (try simp only [List.getElem_toArray, List.getElem_cons_zero, List.getElem_cons_succ, Act.put, List.setIfInBounds_toArray, List.set_cons_zero, List.set_cons_succ])
                refine wpAnyH_go (i := 16) (v := ?v14_16) rfl (by kernel_rfl) (by kernel_rfl) (by kernel_rfl) (fun _ _ _ h => h) (by rfl) ?hy14_16 (by assumption) ?rest14_16
                case hy14_16 => (intro w_ hSw; (try dsimp only at hSw); go_simp; (try (with_reducible rfl)))
                (try simp only [List.getElem_toArray, List.getElem_cons_zero, List.getElem_cons_succ, Act.put, List.setIfInBounds_toArray, List.set_cons_zero, List.set_cons_succ])
                refine wpAnyH_go (i := 17) (v := ?v14_17) rfl (by kernel_rfl) (by kernel_rfl) (by kernel_rfl) (fun _ _ _ h => h) (by rfl) ?hy14_17 (by assumption) ?rest14_17
                case hy14_17 => (intro w_ hSw; (try dsimp only at hSw); go_simp; (try (with_reducible rfl)))
                (try simp only [List.getElem_toArray, List.getElem_cons_zero, List.getElem_cons_succ, Act.put, List.setIfInBounds_toArray, List.set_cons_zero, List.set_cons_succ])
                refine wpAnyH_go (i := 18) (v := ?v14_18) rfl (by kernel_rfl) (by kernel_rfl) (by kernel_rfl) (fun _ _ _ h => h) (by rfl) ?hy14_18 (by assumption) ?rest14_18
                case hy14_18 => (intro w_ hSw; (try dsimp only at hSw); go_simp; (try (with_reducible rfl)))
                (try simp only [List.getElem_toArray, List.getElem_cons_zero, List.getElem_cons_succ, Act.put, List.setIfInBounds_toArray, List.set_cons_zero, List.set_cons_succ])
                refine wpAnyH_go (i := 19) (v := ?v14_19) rfl (by kernel_rfl) (by kernel_rfl) (by kernel_rfl) (fun _ _ _ h => h) (by rfl) ?hy14_19 (by assumption) ?rest14_19
                case hy14_19 => (intro w_ hSw; (try dsimp only at hSw); go_simp; (try (with_reducible rfl)))
                (try simp only [List.getElem_toArray, List.getElem_cons_zero, List.getElem_cons_succ, Act.put, List.setIfInBounds_toArray, List.set_cons_zero, List.set_cons_succ])
                refine wpAnyH_go (i := 20) (v := ?v14_20) rfl (by kernel_rfl) (by kernel_rfl) (by kernel_rfl) (fun _ _ _ h => h) (by rfl) ?hy14_20 (by assumption) ?rest14_20
                case hy14_20 => (intro w_ hSw; (try dsimp only at hSw); go_simp; (try (with_reducible rfl)))
                (try simp only [List.getElem_toArray, List.getElem_cons_zero, List.getElem_cons_succ, Act.put, List.setIfInBounds_toArray, List.set_cons_zero, List.set_cons_succ])
                refine wpAnyH_go (i := 21) (v := ?v14_21) rfl (by kernel_rfl) (by kernel_rfl) (by kernel_rfl) (fun _ _ _ h => h) (by rfl) ?hy14_21 (by assumption) ?rest14_21
                case hy14_21 => (intro w_ hSw; (try dsimp only at hSw); go_simp; (try (with_reducible rfl)))
                (try simp only [List.getElem_toArray, List.getElem_cons_zero, List.getElem_cons_succ, Act.put, List.setIfInBounds_toArray, List.set_cons_zero, List.set_cons_succ])
                refine wpAnyH_go (i := 22) (v := ?v14_22) rfl (by kernel_rfl) (by kernel_rfl) (by kernel_rfl) (fun _ _ _ h => h) (by rfl) ?hy14_22 (by assumption) ?rest14_22
                case hy14_22 => (intro w_ hSw; (try dsimp only at hSw); go_simp; (try (with_reducible rfl)))
                (try simp only [List.getElem_toArray, List.getElem_cons_zero, List.getElem_cons_succ, Act.put, List.setIfInBounds_toArray, List.set_cons_zero, List.set_cons_succ])
                refine wpAnyH_go (i := 23) (v := ?v14_23) rfl (by kernel_rfl) (by kernel_rfl) (by kernel_rfl) (fun _ _ _ h => h) (by rfl) ?hy14_23 (by assumption) ?rest14_23
                case hy14_23 => (intro w_ hSw; (try dsimp only at hSw); go_simp; (try (with_reducible rfl)))
                (try simp only [List.getElem_toArray, List.getElem_cons_zero, List.getElem_cons_succ, Act.put, List.setIfInBounds_toArray, List.set_cons_zero, List.set_cons_succ])
                refine wpAnyH_go (i := 24) (v := ?v14_24) rfl (by kernel_rfl) (by kernel_rfl) (by kernel_rfl) (fun _ _ _ h => h) (by rfl) ?hy14_24 (by assumption) ?rest14_24
                case hy14_24 => (intro w_ hSw; (try dsimp only at hSw); go_simp; (try (with_reducible rfl)))
                (try simp only [List.getElem_toArray, List.getElem_cons_zero, List.getElem_cons_succ, Act.put, List.setIfInBounds_toArray, List.set_cons_zero, List.set_cons_succ])
                refine wpAnyH_go (i := 25) (v := ?v14_25) rfl (by kernel_rfl) (by kernel_rfl) (by kernel_rfl) (fun _ _ _ h => h) (by rfl) ?hy14_25 (by assumption) ?rest14_25
                case hy14_25 => (intro w_ hSw; (try dsimp only at hSw); go_simp; (try (with_reducible rfl)))
                (try simp only [List.getElem_toArray, List.getElem_cons_zero, List.getElem_cons_succ, Act.put, List.setIfInBounds_toArray, List.set_cons_zero, List.set_cons_succ])
                refine wpAnyH_go (i := 26) (v := ?v14_26) rfl (by kernel_rfl) (by kernel_rfl) (by kernel_rfl) (fun _ _ _ h => h) (by rfl) ?hy14_26 (by assumption) ?rest14_26
                case hy14_26 => (intro w_ hSw; (try dsimp only at hSw); go_simp; (try (with_reducible rfl)))
                (try simp only [List.getElem_toArray, List.getElem_cons_zero, List.getElem_cons_succ, Act.put, List.setIfInBounds_toArray, List.set_cons_zero, List.set_cons_succ])
                refine wpAnyH_go (i := 27) (v := ?v14_27) rfl (by kernel_rfl) (by kernel_rfl) (by kernel_rfl) (fun _ _ _ h => h) (by rfl) ?hy14_27 (by assumption) ?rest14_27
                case hy14_27 => (intro w_ hSw; (try dsimp only at hSw); go_simp; (try (with_reducible rfl)))
                (try simp only [List.getElem_toArray, List.getElem_cons_zero, List.getElem_cons_succ, Act.put, List.setIfInBounds_toArray, List.set_cons_zero, List.set_cons_succ])
                refine wpAnyH_go (i := 28) (v := ?v14_28) rfl (by kernel_rfl) (by kernel_rfl) (by kernel_rfl) (fun _ _ _ h => h) (by rfl) ?hy14_28 (by assumption) ?rest14_28
                case hy14_28 => (intro w_ hSw; (try dsimp only at hSw); go_simp; (try (with_reducible rfl)))
                (try simp only [List.getElem_toArray, List.getElem_cons_zero, List.getElem_cons_succ, Act.put, List.setIfInBounds_toArray, List.set_cons_zero, List.set_cons_succ])
                refine wpAnyH_go (i := 29) (v := ?v14_29) rfl (by kernel_rfl) (by kernel_rfl) (by kernel_rfl) (fun _ _ _ h => h) (by rfl) ?hy14_29 (by assumption) ?rest14_29
                case hy14_29 => (intro w_ hSw; (try dsimp only at hSw); go_simp; (try (with_reducible rfl)))
                (try simp only [List.getElem_toArray, List.getElem_cons_zero, List.getElem_cons_succ, Act.put, List.setIfInBounds_toArray, List.set_cons_zero, List.set_cons_succ])
                refine wpAnyH_go (i := 30) (v := ?v14_30) rfl (by kernel_rfl) (by kernel_rfl) (by kernel_rfl) (fun _ _ _ h => h) (by rfl) ?hy14_30 (by assumption) ?rest14_30
                case hy14_30 => (intro w_ hSw; (try dsimp only at hSw); go_simp; (try (with_reducible rfl)))
                (try simp only [List.getElem_toArray, List.getElem_cons_zero, List.getElem_cons_succ, Act.put, List.setIfInBounds_toArray, List.set_cons_zero, List.set_cons_succ])
                refine wpAnyH_go (i := 31) (v := ?v14_31) rfl (by kernel_rfl) (by kernel_rfl) (by kernel_rfl) (fun _ _ _ h => h) (by rfl) ?hy14_31 (by assumption) ?rest14_31
                case hy14_31 => (intro w_ hSw; (try dsimp only at hSw); go_simp; (try (with_reducible rfl)))
                (try simp only [List.getElem_toArray, List.getElem_cons_zero, List.getElem_cons_succ, Act.put, List.setIfInBounds_toArray, List.set_cons_zero, List.set_cons_succ])
                refine wpAnyH_go (i := 32) (v := ?v14_32) rfl (by kernel_rfl) (by kernel_rfl) (by kernel_rfl) (fun _ _ _ h => h) (by rfl) ?hy14_32 (by assumption) ?rest14_32
                case hy14_32 => (intro w_ hSw; (try dsimp only at hSw); go_simp; (try (with_reducible rfl)))
                (try simp only [List.getElem_toArray, List.getElem_cons_zero, List.getElem_cons_succ, Act.put, List.setIfInBounds_toArray, List.set_cons_zero, List.set_cons_succ])
                refine wpAnyH_go (i := 33) (v := ?v14_33) rfl (by kernel_rfl) (by kernel_rfl) (by kernel_rfl) (fun _ _ _ h => h) (by rfl) ?hy14_33 (by assumption) ?rest14_33
                case hy14_33 => (intro w_ hSw; (try dsimp only at hSw); go_simp; (try (with_reducible rfl)))
                (try simp only [List.getElem_toArray, List.getElem_cons_zero, List.getElem_cons_succ, Act.put, List.setIfInBounds_toArray, List.set_cons_zero, List.set_cons_succ])
                refine wpAnyH_done (by kernel_rfl) ?_ _
                refine NoPanic.normal ?_
                all_goals (
                  go_wp2
                  go_ret
                  exact ⟨ret_bool HF.out.symm, hb.trans ((hbW.trans (Below.mono (by first | exact hb2 | exact (Below.refl _ _).drew.trans hb2 | exact below_drewN hb2 _ | exact (below_drewN (Below.refl _ _) _).trans hb2 | exact bel) hq2)).mono hzr)⟩)
            · have HF := Lib.hid (catOk_no (unhide HKP) (by rw [itGood_j HK.out HX.out HXP.out]; simp [nmLe, ← HNQ.out, hl1]))
              have hqn := fun W => s_NameOk nm W hnm
              simp only [hnok] at hqn
              have HQN := hide hqn
              clear hqn
              go_wp2
              have hs0 := hss
              obtain ⟨w0, hw0⟩ : ∃ W, W = wr := ⟨_, rfl⟩
              have hbW : Below wr.heap.size wr w0 := by rw [hw0]; exact Below.refl _ _
              rw [← hw0] at hs0 hc0 hc1 hc2 hc3 ⊢
              rw [← hw0] at hpc
              have hq2 : wr.heap.size ≤ w0.heap.size := hbW.size
              have hq1 : (ad.add (j * 4)).block < w0.heap.size := by rw [block_of_add]; omega
              have hpq2 : (ad.add (K * 4)).block < w0.heap.size := (by rw [block_of_add]; omega)
              clear hw0
              have hs0B := hs0.more (B' := w0.heap.size) (by omega)
              refine wp_region_noPanic ?_
              refine wp_region_held_drew (S := (fun W => (∀ p : Addr, p.block < w0.heap.size → W.cell? p = w0.cell? p) ∧ (∀ p : Addr, p.block < w0.heap.size → W.frozen? p = w0.frozen? p) ∧ Below w0.heap.size w0 W)) (by kernel_rfl) ?_ (fun hHeld => ?_)
              · exact (keep_ofP bel)
              refine wpAnyH_go (i := 0) (v := ?v15_0) rfl (by kernel_rfl) (by kernel_rfl) (by kernel_rfl) (fun _ _ _ h => h) (by rfl) ?hy15_0 (by assumption) ?rest15_0
              case hy15_0 => (intro w_ hSw; (try dsimp only at hSw); go_simp; (try (with_reducible rfl)))
              (try simp only [List.getElem_toArray, List.getElem_cons_zero, Act.put, List.setIfInBounds_toArray, List.set_cons_zero, List.set_cons_succ])
              refine wpAnyH_go (i := 1) (v := ?v15_1) rfl (by kernel_rfl) (by kernel_rfl) (by kernel_rfl) (fun _ _ _ h => h) (by rfl) ?hy15_1 (by assumption) ?rest15_1
              case hy15_1 => (intro w_ hSw; (try dsimp only at hSw); go_simp; (try (with_reducible rfl)))
              (try simp only [List.getElem_toArray, List.getElem_cons_zero, List.getElem_cons_succ, Act.put, List.setIfInBounds_toArray, List.set_cons_zero, List.set_cons_succ])
              refine wpAnyH_go (i := 2) (v := ?v15_2) rfl (by kernel_rfl) (by kernel_rfl) (by kernel_rfl) (fun _ _ _ h => h) (by rfl) ?hy15_2 (by assumption) ?rest15_2
              case hy15_2 => (intro w_ hSw; (try dsimp only at hSw); go_simp; (try (with_reducible rfl)))
              (try simp only [List.getElem_toArray, List.getElem_cons_zero, List.getElem_cons_succ, Act.put, List.setIfInBounds_toArray, List.set_cons_zero, List.set_cons_succ])
              refine wpAnyH_go (i := 3) (v := ?v15_3) rfl (by kernel_rfl) (by kernel_rfl) (by kernel_rfl) (fun _ _ _ h => h) (by rfl) ?hy15_3 (by assumption) ?rest15_3
              case hy15_3 => (intro w_ hSw; (try dsimp only at hSw); go_simp; (try (with_reducible rfl)))
              (try simp only [List.getElem_toArray, List.getElem_cons_zero, List.getElem_cons_succ, Act.put, List.setIfInBounds_toArray, List.set_cons_zero, List.set_cons_succ])
              refine wpAnyH_go (i := 4) (v := ?v15_4) rfl (by kernel_rfl) (by kernel_rfl) (by kernel_rfl) (fun _ _ _ h => h) (by rfl) ?hy15_4 (by assumption) ?rest15_4
              case hy15_4 => (intro w_ hSw; (try dsimp only at hSw); go_simp; (try (with_reducible rfl)))
              (try simp only [List.getElem_toArray, List.getElem_cons_zero, List.getElem_cons_succ, Act.put, List.setIfInBounds_toArray, List.set_cons_zero, List.set_cons_succ])
              refine wpAnyH_ready (rs := [5]) (by kernel_rfl) (by simp) ?_
              refine AllReadyH.cons rfl (fun K hK => ?_) AllReadyH.nil
              go_simp
              (refine (unhide HQN _).mono ?_; rintro e w' ⟨rfl, rfl⟩)
              (try (go_wp2_with fail))
              refine hK.out _ _ ?_ (fun hHeld => ?_)
              · exact (keep_ofP bel)
              clear hK K
              (try simp only [List.getElem_toArray, List.getElem_cons_zero, List.getElem_cons_succ, Act.put, List.setIfInBounds_toArray, List.set_cons_zero, List.set_cons_succ])
              refine wpAnyH_go (i := 6) (v := ?v15_6) rfl (by kernel_rfl) (by kernel_rfl) (by kernel_rfl) (fun _ _ _ h => h) (by rfl) ?hy15_6 (by assumption) ?rest15_6
              case hy15_6 => (intro w_ hSw; (try dsimp only at hSw); go_simp; (try (with_reducible rfl)))
              (try simp only [List.getElem_toArray, List.getElem_cons_zero, List.getElem_cons_succ, Act.put, List.setIfInBounds_toArray, List.set_cons_zero, List.set_cons_succ])
              refine wpAnyH_go (i := 7) (v := ?v15_7) rfl (by kernel_rfl) (by kernel_rfl) (by kernel_rfl) (fun _ _ _ h => h) (by rfl) ?hy15_7 (by assumption) ?rest15_7
              case hy15_7 => (intro w_ hSw; (try dsimp only at hSw); go_simp; (try (with_reducible rfl)))
              (try simp only [List.getElem_toArray, List.getElem_cons_zero, List.getElem_cons_succ, Act.put, List.setIfInBounds_toArray, List.set_cons_zero, List.set_cons_succ])
              refine wpAnyH_go (i := 8) (v := ?v15_8) rfl (by kernel_rfl) (by kernel_rfl) (by kernel_rfl) (fun _ _ _ h => h) (by rfl) ?hy15_8 (by assumption) ?rest15_8
              case hy15_8 => (intro w_ hSw; (try dsimp only at hSw); go_simp; (try (with_reducible rfl)))
              (try simp only [List.getElem_toArray, List.getElem_cons_zero, List.getElem_cons_succ, Act.put, List.setIfInBounds_toArray, List.set_cons_zero, List.set_cons_succ])
              refine wpAnyH_go (i := 9) (v := ?v15_9) rfl (by kernel_rfl) (by kernel_rfl) (by kernel_rfl) (fun _ _ _ h => h) (by rfl) ?hy15_9 (by assumption) ?rest15_9
              case hy15_9 => (intro w_ hSw; (try dsimp only at hSw); go_simp; (try (with_reducible rfl)))
              (try simp only [List.getElem_toArray, List.getElem_cons_zero, List.getElem_cons_succ, Act.put, List.setIfInBounds_toArray, List.set_cons_zero, List.set_cons_succ])
              refine wpAnyH_go (i := 10) (v := ?v15_10) rfl (by kernel_rfl) (by kernel_rfl) (by kernel_rfl) (fun _ _ _ h => h) (by rfl) ?hy15_10 (by assumption) ?rest15_10
              case hy15_10 => (intro w_ hSw; (try dsimp only at hSw); go_simp; (try (with_reducible rfl)))
              (try simp only [List.getElem_toArray, List.getElem_cons_zero, List.getElem_cons_succ, Act.put, List.setIfInBounds_toArray, List.set_cons_zero, List.set_cons_succ])
              refine wpAnyH_go (i := 11) (v := ?v15_11) rfl (by kernel_rfl) (by kernel_rfl) (by kernel_rfl) (fun _ _ _ h => h) (by rfl) ?hy15_11 (by assumption) ?rest15_11
              case hy15_11 => (intro w_ hSw; (try dsimp only at hSw); go_simp; (try (with_reducible rfl)))
              (try simp only [List.getElem_toArray, List.getElem_cons_zero, List.getElem_cons_succ, Act.put, List.setIfInBounds_toArray, List.set_cons_zero, List.set_cons_succ])
              refine wpAnyH_go (i := 12) (v := ?v15_12) rfl (by kernel_rfl) (by kernel_rfl) (by kernel_rfl) (fun _ _ _ h => h) (by rfl) ?hy15_12 (by assumption) ?rest15_12
              case hy15_12 => (intro w_ hSw; (try dsimp only at hSw); go_simp; (try (with_reducible rfl)))
              (try simp only [List.getElem_toArray, List.getElem_cons_zero, List.getElem_cons_succ, Act.put, List.setIfInBounds_toArray, List.set_cons_zero, List.set_cons_succ])
              refine wpAnyH_ready (rs := [13]) (by kernel_rfl) (by simp) ?_
              refine AllReadyH.cons rfl (fun K hK => ?_) AllReadyH.nil
              go_simp
              (have hq := (‹_ ∧ _ ∧ Below _ _ _›).2.2; refine (s_CardOk d f _ _ _ ss _ ?_).mono ?_; exact (hs0B.below hq).more hq.size; rw [hck]; rintro e w2 ⟨rfl, hb2⟩)
              (try (go_wp2_with fail))
              refine hK.out _ _ ?_ (fun hHeld => ?_)
              · exact (keep_ofP bel)
              clear hK K
              (try simp only [List.getElem_toArray, List.getElem_cons_zero, List.getElem_cons_succ, Act.put, List.setIfInBounds_toArray, List.set_cons_zero, List.set_cons_succ])
              refine wpAnyH_go (i := 14) (v := ?v15_14) rfl (by kernel_rfl) (by kernel_rfl) (by kernel_rfl) (fun _ _ _ h => h) (by rfl) ?hy15_14 (by assumption) ?rest15_14
              case hy15_14 => (intro w_ hSw; (try dsimp only at hSw); go_simp; (try (with_reducible rfl)))
              (try simp only [List.getElem_toArray, List.getElem_cons_zero, List.getElem_cons_succ, Act.put, List.setIfInBounds_toArray, List.set_cons_zero, List.set_cons_succ])
              refine wpAnyH_go (i := 15) (v := ?v15_15) rfl (by kernel_rfl) (by kernel_rfl) (by kernel_rfl) (fun _ _ _ h => h) (by rfl) ?hy15_15 (by assumption) ?rest15_15
              case hy15_15 => (intro w_ hSw; (try dsimp only at hSw); go_simp; (try (with_reducible rfl)))
              (try simp only [List.getElem_toArray, List.getElem_cons_zero, List.getElem_cons_succ, Act.put, List.setIfInBounds_toArray, List.set_cons_zero, List.set_cons_succ])
              refine wpAnyH_go (i := 16) (v := ?v15_16) rfl (by kernel_rfl) (by kernel_rfl) (by kernel_rfl) (fun _ _ _ h => h) (by rfl) ?hy15_16 (by assumption) ?rest15_16
              case hy15_16 => (intro w_ hSw; (try dsimp only at hSw); go_simp; (try (with_reducible rfl)))
              (try simp only [List.getElem_toArray, List.getElem_cons_zero, List.getElem_cons_succ, Act.put, List.setIfInBounds_toArray, List.set_cons_zero, List.set_cons_succ])
              refine wpAnyH_go (i := 17) (v := ?v15_17) rfl (by kernel_rfl) (by kernel_rfl) (by kernel_rfl) (fun _ _ _ h => h) (by rfl) ?hy15_17 (by assumption) ?rest15_17
              case hy15_17 => (intro w_ hSw; (try dsimp only at hSw); go_simp; (try (with_reducible rfl)))
              (try simp only [List.getElem_toArray, List.getElem_cons_zero, List.getElem_cons_succ, Act.put, List.setIfInBounds_toArray, List.set_cons_zero, List.set_cons_succ])
              refine wpAnyH_go (i := 18) (v := ?v15_18) rfl (by kernel_rfl) (by kernel_rfl) (by kernel_rfl) (fun _ _ _ h => h) (by rfl) ?hy15_18 (by assumption) ?rest15_18
              case hy15_18 => (intro w_ hSw; (try dsimp only at hSw); go_simp; (try (with_reducible rfl)))
              (try simp only [List.getElem_toArray, List.getElem_cons_zero, List.getElem_cons_succ, Act.put, List.setIfInBounds_toArray, List.set_cons_zero, List.set_cons_succ])
              refine wpAnyH_go (i := 19) (v := ?v15_19) rfl (by kernel_rfl) (by kernel_rfl) (by kernel_rfl) (fun _ _ _ h => h) (by rfl) ?hy15_19 (by assumption) ?rest15_19
              case hy15_19 => (intro w_ hSw; (try dsimp only at hSw); go_simp; (try (with_reducible rfl)))
              (try simp only [List.getElem_toArray, List.getElem_cons_zero, List.getElem_cons_succ, Act.put, List.setIfInBounds_toArray, List.set_cons_zero, List.set_cons_succ])
              refine wpAnyH_go (i := 20) (v := ?v15_20) rfl (by kernel_rfl) (by kernel_rfl) (by kernel_rfl) (fun _ _ _ h => h) (by rfl) ?hy15_20 (by assumption) ?rest15_20
              case hy15_20 => (intro w_ hSw; (try dsimp only at hSw); go_simp; (try (with_reducible rfl)))
              (try simp only [List.getElem_toArray, List.getElem_cons_zero, List.getElem_cons_succ, Act.put, List.setIfInBounds_toArray, List.set_cons_zero, List.set_cons_succ])
              refine wpAnyH_go (i := 21) (v := ?v15_21) rfl (by kernel_rfl) (by kernel_rfl) (by kernel_rfl) (fun _ _ _ h => h) (by rfl) ?hy15_21 (by assumption) ?rest15_21
              case hy15_21 => (intro w_ hSw; (try dsimp only at hSw); go_simp; (try (with_reducible rfl)))
              (try simp only [List.getElem_toArray, List.getElem_cons_zero, List.getElem_cons_succ, Act.put, List.setIfInBounds_toArray, List.set_cons_zero, List.set_cons_succ])
              refine wpAnyH_go (i := 22) (v := ?v15_22) rfl (by kernel_rfl) (by kernel_rfl) (by kernel_rfl) (fun _ _ _ h => h) (by rfl) ?hy15_22 (by assumption) ?rest15_22
              case hy15_22 => (intro w_ hSw; (try dsimp only at hSw); go_simp; (try (with_reducible rfl)))
              (try simp only [List.getElem_toArray, List.getElem_cons_zero, List.getElem_cons_succ, Act.put, List.setIfInBounds_toArray, List.set_cons_zero, List.set_cons_succ])
              refine wpAnyH_go (i := 23) (v := ?v15_23) rfl (by kernel_rfl) (by kernel_rfl) (by kernel_rfl) (fun _ _ _ h => h) (by rfl) ?hy15_23 (by assumption) ?rest15_23
              case hy15_23 => (intro w_ hSw; (try dsimp only at hSw); go_simp; (try (with_reducible rfl)))
              (try simp only [List.getElem_toArray, List.getElem_cons_zero, List.getElem_cons_succ, Act.put, List.setIfInBounds_toArray, List.set_cons_zero, List.set_cons_succ])
              refine wpAnyH_go (i := 24) (v := ?v15_24) rfl (by kernel_rfl) (by kernel_rfl) (by kernel_rfl) (fun _ _ _ h => h) (by rfl) ?hy15_24 (by assumption) ?rest15_24
              case hy15_24 => (intro w_ hSw; (try dsimp only at hSw); go_simp; (try (with_reducible rfl)))
              (try simp only [List.getElem_toArray, List.getElem_cons_zero, List.getElem_cons_succ, Act.put, List.setIfInBounds_toArray, List.set_cons_zero, List.set_cons_succ])
              refine wpAnyH_go (i := 25) (v := ?v15_25) rfl (by kernel_rfl) (by kernel_rfl) (by kernel_rfl) (fun _ _ _ h => h) (by rfl) ?hy15_25 (by assumption) ?rest15_25
              case hy15_25 => (intro w_ hSw; (try dsimp only at hSw); go_simp; (try (with_reducible rfl)))
              (try simp only [List.getElem_toArray, List.getElem_cons_zero, List.getElem_cons_succ, Act.put, List.setIfInBounds_toArray, List.set_cons_zero, List.set_cons_succ])
              refine wpAnyH_go (i := 26) (v := ?v15_26) rfl (by kernel_rfl) (by kernel_rfl) (by kernel_rfl) (fun _ _ _ h => h) (by rfl) ?hy15_26 (by assumption) ?rest15_26
              case hy15_26 => (intro w_ hSw; (try dsimp only at hSw); go_simp; (try (with_reducible rfl)))
              (try simp only [List.getElem_toArray, List.getElem_cons_zero, List.getElem_cons_succ, Act.put, List.setIfInBounds_toArray, List.set_cons_zero, List.set_cons_succ])
              refine wpAnyH_go (i := 27) (v := ?v15_27) rfl (by kernel_rfl) (by kernel_rfl) (by kernel_rfl) (fun _ _ _ h => h) (by rfl) ?hy15_27 (by assumption) ?rest15_27
              case hy15_27 => (intro w_ hSw; (try dsimp only at hSw); go_simp; (try (with_reducible rfl)))
              (try simp only [List.getElem_toArray, List.getElem_cons_zero, List.getElem_cons_succ, Act.put, List.setIfInBounds_toArray, List.set_cons_zero, List.set_cons_succ])
              refine wpAnyH_go (i := 28) (v := ?v15_28) rfl (by kernel_rfl) (by kernel_rfl) (by kernel_rfl) (fun _ _ _ h => h) (by rfl) ?hy15_28 (by assumption) ?rest15_28
              case hy15_28 => (intro w_ hSw; (try dsimp only at hSw); go_simp; (try (with_reducible rfl)))
              (try simp only [List.getElem_toArray, List.getElem_cons_zero, List.getElem_cons_succ, Act.put, List.setIfInBounds_toArray, List.set_cons_zero, List.set_cons_succ])
              refine wpAnyH_go (i := 29) (v := ?v15_29) rfl (by kernel_rfl) (by kernel_rfl) (by kernel_rfl) (fun _ _ _ h => h) (by rfl) ?hy15_29 (by assumption) ?rest15_29
              case hy15_29 => (intro w_ hSw; (try dsimp only at hSw); go_simp; (try (with_reducible rfl)))
              (try simp only [List.getElem_toArray, List.getElem_cons_zero, List.getElem_cons_succ, Act.put, List.setIfInBounds_toArray, List.set_cons_zero, List.set_cons_succ])
              refine wpAnyH_go (i := 30) (v := ?v15_30) rfl (by kernel_rfl) (by kernel_rfl) (by kernel_rfl) (fun _ _ _ h => h) (by rfl) ?hy15_30 (by assumption) ?rest15_30
              case hy15_30 => (intro w_ hSw; (try dsimp only at hSw); go_simp; (try (with_reducible rfl)))
              (try simp only [List.getElem_toArray, List.getElem_cons_zero, List.getElem_cons_succ, Act.put, List.setIfInBounds_toArray, List.set_cons_zero, List.set_cons_succ])
              refine wpAnyH_go (i := 31) (v := ?v15_31) rfl (by kernel_rfl) (by kernel_rfl) (by kernel_rfl) (fun _ _ _ h => h) (by rfl) ?hy15_31 (by assumption) ?rest15_31
              case hy15_31 => (intro w_ hSw; (try dsimp only at hSw); go_simp; (try (with_reducible rfl)))
              (try simp only [List.getElem_toArray, List.getElem_cons_zero, List.getElem_cons_succ, Act.put, List.setIfInBounds_toArray, List.set_cons_zero, List.set_cons_succ])
              refine wpAnyH_go (i := 32) (v := ?v15_32) rfl (by kernel_rfl) (by kernel_rfl) (by kernel_rfl) (fun _ _ _ h => h) (by rfl) ?hy15_32 (by assumption) ?rest15_32
              case hy15_32 => (intro w_ hSw; (try dsimp only at hSw); go_simp; (try (with_reducible rfl)))
              (try simp only [List.getElem_toArray, List.getElem_cons_zero, List.getElem_cons_succ, Act.put, List.setIfInBounds_toArray, List.set_cons_zero, List.set_cons_succ])
              refine wpAnyH_go (i := 33) (v := ?v15_33) rfl (by kernel_rfl) (by kernel_rfl) (by kernel_rfl) (fun _ _ _ h => h) (by rfl) ?hy15_33 (by assumption) ?rest15_33
              case hy15_33 => (intro w_ hSw; (try dsimp only at hSw); go_simp; (try (with_reducible rfl)))
              (try simp only [List.getElem_toArray, List.getElem_cons_zero, List.getElem_cons_succ, Act.put, List.setIfInBounds_toArray, List.set_cons_zero, List.set_cons_succ])
              refine wpAnyH_done (by kernel_rfl) ?_ _
              refine NoPanic.normal ?_
              all_goals (
                go_wp2
                go_ret
                exact ⟨ret_bool HF.out.symm, hb.trans ((hbW.trans (Below.mono (by first | exact hb2 | exact (Below.refl _ _).drew.trans hb2 | exact below_drewN hb2 _ | exact (below_drewN (Below.refl _ _) _).trans hb2 | exact bel) hq2)).mono hzr)⟩)
    · have hjn : j = n := by omega
      subst hjn
      have hcat : catOk P = decide (j ≤ 20) := by
        unfold catOk
        rw [HL.out, HA.out]; rfl
      have HF := Lib.hid hcat
      clear hcat
      by_cases h20 : j ≤ 20
      · go_wp2
        go_ret
        exact ⟨ret_bool (by rw [HF.out]; simp [h20]; try omega), hb⟩
      · go_wp2
        go_ret
        exact ⟨ret_bool (by rw [HF.out]; simp [h20]; try omega), hb⟩
end Go.Proofs.YtdddglihomchfaaGreat
namespace Go.Proofs.YtdddglihomchfaaGreat
open Go.ChangeShapes Go.WideShapes Go.ChangeAt Go.RowKit
set_option linter.unusedVariables false
set_option linter.unusedSimpArgs false
set_option maxRecDepth 10000
structure PWork where
  (D : PDraft) (P : List PItem) (pp : List PPaper) (m : Int)
def workOk (W : PWork) : Bool := draftOk W.D && (catOk W.P && (decide (W.pp.length ≤ 20) && (papOk W.pp && inB W.m 0 1000000)))
theorem workOk_iff {W : PWork} : workOk W = true ↔ draftOk W.D = true ∧ catOk W.P = true ∧ W.pp.length ≤ 20 ∧ papOk W.pp = true ∧ 0 ≤ W.m ∧ W.m ≤ 1000000 := by
  unfold workOk
  simp only [Bool.and_eq_true, decide_eq_true_eq, inB_iff']
theorem workOk_no1 {W : PWork} (h : draftOk W.D = false) : workOk W = false := by unfold workOk; rw [h]; rfl
theorem workOk_no2 {W : PWork} (h : catOk W.P = false) : workOk W = false := by unfold workOk; rw [h]; simp
theorem workOk_no3 {W : PWork} (h : ¬ W.pp.length ≤ 20) : workOk W = false := by unfold workOk; rw [decide_eq_false h]; simp
theorem workOk_no4 {W : PWork} (h : papOk W.pp = false) : workOk W = false := by unfold workOk; rw [h]; simp
theorem workOk_yes {W : PWork} (h1 : draftOk W.D = true) (h2 : catOk W.P = true) (h3 : W.pp.length ≤ 20) (h4 : papOk W.pp = true) : workOk W = inB W.m 0 1000000 := by unfold workOk; rw [h1, h2, h4, decide_eq_true h3]; rfl
set_option maxHeartbeats 3200000 in
theorem i_WorkshopOk (d1 f1 : Int) (ss1 : List ByteArray) (d2 f2 : Int) (ss2 : List ByteArray) (st : List PStep) (P : List PItem) (pp : List PPaper) (m : Int) (B : Nat) (A1 A2 A3 A4 A5 : Option Addr) (c1 c2 c3 c4 c5 : Nat) (w : World) (hS : RdWork w B A1 A2 A3 A4 c4 A5 ⟨d1, f1, ss1, d2, f2, ss2, st⟩ P pp) (hB : B ≤ w.heap.size) :
    Calls Tryz.prog 18 #[.agg #[.int .i64 d1, .int .i64 f1, .slice A1 ss1.length c1, .int .i64 d2, .int .i64 f2, .slice A2 ss2.length c2, .slice A3 st.length c3, .slice A4 P.length c4, .slice A5 pp.length c5, .int .i64 m]] w fun e w' => e = .returned (.bool (workOk ⟨⟨d1, f1, ss1, d2, f2, ss2, st⟩, P, pp, m⟩)) ∧ Below w.heap.size w w' := by
  have hS2 := hS.alloc hB (.cells #[.int .i64 d1, .int .i64 f1, .slice A1 ss1.length c1, .int .i64 d2, .int .i64 f2, .slice A2 ss2.length c2, .slice A3 st.length c3, .slice A4 P.length c4, .slice A5 pp.length c5, .int .i64 m] 41)
  have hka := blk_new w (.cells #[.int .i64 d1, .int .i64 f1, .slice A1 ss1.length c1, .int .i64 d2, .int .i64 f2, .slice A2 ss2.length c2, .slice A3 st.length c3, .slice A4 P.length c4, .slice A5 pp.length c5, .int .i64 m] 41)
  obtain ⟨L, hpl, hL⟩ := hS.i
  have HPL := Lib.hid hpl
  have hpn := hS.p.nb
  clear hpl
  cases h1 : draftOk ⟨d1, f1, ss1, d2, f2, ss2, st⟩
  · have HR := Lib.hid (workOk_no1 (W := (PWork.mk ⟨d1, f1, ss1, d2, f2, ss2, st⟩ P pp m)) h1)
    have H1 := Lib.hid h1
    clear h1
    go_enter Tryz.func18, Tryz.ntmps18
    go_wp2_with (first | (go_at_call 69; refine (i_DraftOk ⟨d1, f1, ss1, d2, f2, ss2, st⟩ B A1 A2 A3 c1 c2 c3 _ (hS2.d) (by simp; omega)).mono ?_; rw [H1.out]; rintro e w1 ⟨rfl, hb1⟩; (have hbw1 : Below w.heap.size w w1 := ((Below.refl _ _).alloc (Nat.le_refl _) _).trans (hb1.mono (by simp))); (have hk1 := blk_next hka hb1); obtain ⟨hx0, hx1, hx2, hx3, hx4, hx5, hx6, hx7, hx8, hx9, hxl⟩ := blk10 hk1))
    go_ret
    exact ⟨ret_bool HR.out.symm, hbw1⟩
  · cases h2 : catOk P
    · have HR := Lib.hid (workOk_no2 (W := (PWork.mk ⟨d1, f1, ss1, d2, f2, ss2, st⟩ P pp m)) h2)
      have H1 := Lib.hid h1
      have H2 := Lib.hid h2
      clear h1 h2
      go_enter Tryz.func18, Tryz.ntmps18
      go_wp2_with (first | (go_at_call 69; refine (i_DraftOk ⟨d1, f1, ss1, d2, f2, ss2, st⟩ B A1 A2 A3 c1 c2 c3 _ (hS2.d) (by simp; omega)).mono ?_; rw [H1.out]; rintro e w1 ⟨rfl, hb1⟩; (have hbw1 : Below w.heap.size w w1 := ((Below.refl _ _).alloc (Nat.le_refl _) _).trans (hb1.mono (by simp))); (have hk1 := blk_next hka hb1); obtain ⟨hx0, hx1, hx2, hx3, hx4, hx5, hx6, hx7, hx8, hx9, hxl⟩ := blk10 hk1) | (go_at_call 70; refine (i_CatalogOk P B A4 P.length c4 L _ HPL.out (hL.below (hbw1.mono hB)) (Nat.le_trans hB hbw1.size)).mono ?_; rw [H2.out]; rintro e w2 ⟨rfl, hb2⟩; (have hbw2 : Below w.heap.size w w2 := hbw1.trans (hb2.mono hbw1.size)); (have hk2 := blk_next hk1 hb2); clear hx0 hx1 hx2 hx3 hx4 hx5 hx6 hx7 hx8 hx9 hxl; obtain ⟨hx0, hx1, hx2, hx3, hx4, hx5, hx6, hx7, hx8, hx9, hxl⟩ := blk10 hk2))
      go_ret
      exact ⟨ret_bool HR.out.symm, hbw2⟩
    · by_cases h3 : pp.length ≤ 20
      · cases h4 : papOk pp
        · have hi3 : (pp.length : Int) ≤ 20 := by omega
          have HR := Lib.hid (workOk_no4 (W := (PWork.mk ⟨d1, f1, ss1, d2, f2, ss2, st⟩ P pp m)) h4)
          have H1 := Lib.hid h1
          have H2 := Lib.hid h2
          have H4 := Lib.hid h4
          clear h1 h2 h4
          go_enter Tryz.func18, Tryz.ntmps18
          go_wp2_with (first | (go_at_call 69; refine (i_DraftOk ⟨d1, f1, ss1, d2, f2, ss2, st⟩ B A1 A2 A3 c1 c2 c3 _ (hS2.d) (by simp; omega)).mono ?_; rw [H1.out]; rintro e w1 ⟨rfl, hb1⟩; (have hbw1 : Below w.heap.size w w1 := ((Below.refl _ _).alloc (Nat.le_refl _) _).trans (hb1.mono (by simp))); (have hk1 := blk_next hka hb1); obtain ⟨hx0, hx1, hx2, hx3, hx4, hx5, hx6, hx7, hx8, hx9, hxl⟩ := blk10 hk1) | (go_at_call 70; refine (i_CatalogOk P B A4 P.length c4 L _ HPL.out (hL.below (hbw1.mono hB)) (Nat.le_trans hB hbw1.size)).mono ?_; rw [H2.out]; rintro e w2 ⟨rfl, hb2⟩; (have hbw2 : Below w.heap.size w w2 := hbw1.trans (hb2.mono hbw1.size)); (have hk2 := blk_next hk1 hb2); clear hx0 hx1 hx2 hx3 hx4 hx5 hx6 hx7 hx8 hx9 hxl; obtain ⟨hx0, hx1, hx2, hx3, hx4, hx5, hx6, hx7, hx8, hx9, hxl⟩ := blk10 hk2) | (go_at_call 71; refine (i_arePapers pp B A5 pp.length c5 _ (hS.p.below (hbw2.mono hB)) (Nat.le_trans hB hbw2.size)).mono ?_; rw [H4.out]; rintro e w3 ⟨rfl, hb3⟩; (have hbw3 : Below w.heap.size w w3 := hbw2.trans (hb3.mono hbw2.size)); (have hk3 := blk_next hk2 hb3); clear hx0 hx1 hx2 hx3 hx4 hx5 hx6 hx7 hx8 hx9 hxl; obtain ⟨hx0, hx1, hx2, hx3, hx4, hx5, hx6, hx7, hx8, hx9, hxl⟩ := blk10 hk3))
          go_ret
          exact ⟨ret_bool HR.out.symm, hbw3⟩
        · have hi3 : (pp.length : Int) ≤ 20 := by omega
          have HR := Lib.hid (workOk_yes (W := (PWork.mk ⟨d1, f1, ss1, d2, f2, ss2, st⟩ P pp m)) h1 h2 h3 h4)
          have H1 := Lib.hid h1
          have H2 := Lib.hid h2
          have H4 := Lib.hid h4
          clear h1 h2 h4
          go_enter Tryz.func18, Tryz.ntmps18
          go_wp2_with (first | (go_at_call 69; refine (i_DraftOk ⟨d1, f1, ss1, d2, f2, ss2, st⟩ B A1 A2 A3 c1 c2 c3 _ (hS2.d) (by simp; omega)).mono ?_; rw [H1.out]; rintro e w1 ⟨rfl, hb1⟩; (have hbw1 : Below w.heap.size w w1 := ((Below.refl _ _).alloc (Nat.le_refl _) _).trans (hb1.mono (by simp))); (have hk1 := blk_next hka hb1); obtain ⟨hx0, hx1, hx2, hx3, hx4, hx5, hx6, hx7, hx8, hx9, hxl⟩ := blk10 hk1) | (go_at_call 70; refine (i_CatalogOk P B A4 P.length c4 L _ HPL.out (hL.below (hbw1.mono hB)) (Nat.le_trans hB hbw1.size)).mono ?_; rw [H2.out]; rintro e w2 ⟨rfl, hb2⟩; (have hbw2 : Below w.heap.size w w2 := hbw1.trans (hb2.mono hbw1.size)); (have hk2 := blk_next hk1 hb2); clear hx0 hx1 hx2 hx3 hx4 hx5 hx6 hx7 hx8 hx9 hxl; obtain ⟨hx0, hx1, hx2, hx3, hx4, hx5, hx6, hx7, hx8, hx9, hxl⟩ := blk10 hk2) | (go_at_call 71; refine (i_arePapers pp B A5 pp.length c5 _ (hS.p.below (hbw2.mono hB)) (Nat.le_trans hB hbw2.size)).mono ?_; rw [H4.out]; rintro e w3 ⟨rfl, hb3⟩; (have hbw3 : Below w.heap.size w w3 := hbw2.trans (hb3.mono hbw2.size)); (have hk3 := blk_next hk2 hb3); clear hx0 hx1 hx2 hx3 hx4 hx5 hx6 hx7 hx8 hx9 hxl; obtain ⟨hx0, hx1, hx2, hx3, hx4, hx5, hx6, hx7, hx8, hx9, hxl⟩ := blk10 hk3) | (go_at_call 72; refine (i_within _ _ _ _).mono ?_; rintro e w' ⟨rfl, rfl⟩))
          go_ret
          exact ⟨ret_bool HR.out.symm, hbw3⟩
      · have hi3 : ¬ (pp.length : Int) ≤ 20 := by omega
        have HR := Lib.hid (workOk_no3 (W := (PWork.mk ⟨d1, f1, ss1, d2, f2, ss2, st⟩ P pp m)) h3)
        have H1 := Lib.hid h1
        have H2 := Lib.hid h2
        clear h1 h2
        go_enter Tryz.func18, Tryz.ntmps18
        go_wp2_with (first | (go_at_call 69; refine (i_DraftOk ⟨d1, f1, ss1, d2, f2, ss2, st⟩ B A1 A2 A3 c1 c2 c3 _ (hS2.d) (by simp; omega)).mono ?_; rw [H1.out]; rintro e w1 ⟨rfl, hb1⟩; (have hbw1 : Below w.heap.size w w1 := ((Below.refl _ _).alloc (Nat.le_refl _) _).trans (hb1.mono (by simp))); (have hk1 := blk_next hka hb1); obtain ⟨hx0, hx1, hx2, hx3, hx4, hx5, hx6, hx7, hx8, hx9, hxl⟩ := blk10 hk1) | (go_at_call 70; refine (i_CatalogOk P B A4 P.length c4 L _ HPL.out (hL.below (hbw1.mono hB)) (Nat.le_trans hB hbw1.size)).mono ?_; rw [H2.out]; rintro e w2 ⟨rfl, hb2⟩; (have hbw2 : Below w.heap.size w w2 := hbw1.trans (hb2.mono hbw1.size)); (have hk2 := blk_next hk1 hb2); clear hx0 hx1 hx2 hx3 hx4 hx5 hx6 hx7 hx8 hx9 hxl; obtain ⟨hx0, hx1, hx2, hx3, hx4, hx5, hx6, hx7, hx8, hx9, hxl⟩ := blk10 hk2))
        go_ret
        exact ⟨ret_bool HR.out.symm, hbw2⟩
set_option maxHeartbeats 3200000 in
theorem s_WorkshopOk (d1 f1 : Int) (ss1 : List ByteArray) (d2 f2 : Int) (ss2 : List ByteArray) (st : List PStep) (P : List PItem) (pp : List PPaper) (m : Int) (B : Nat) (A1 A2 A3 A4 A5 : Option Addr) (c1 c2 c3 c4 c5 : Nat) (w : World) (hS : RdWork w B A1 A2 A3 A4 c4 A5 ⟨d1, f1, ss1, d2, f2, ss2, st⟩ P pp) (hB : B ≤ w.heap.size) :
    Calls Tryz.prog 16 #[.agg #[.int .i64 d1, .int .i64 f1, .slice A1 ss1.length c1, .int .i64 d2, .int .i64 f2, .slice A2 ss2.length c2, .slice A3 st.length c3, .slice A4 P.length c4, .slice A5 pp.length c5, .int .i64 m]] w fun e w' => e = .returned (.bool (workOk ⟨⟨d1, f1, ss1, d2, f2, ss2, st⟩, P, pp, m⟩)) ∧ Below w.heap.size w w' := by
  have hS2 := hS.alloc hB (.cells #[.int .i64 d1, .int .i64 f1, .slice A1 ss1.length c1, .int .i64 d2, .int .i64 f2, .slice A2 ss2.length c2, .slice A3 st.length c3, .slice A4 P.length c4, .slice A5 pp.length c5, .int .i64 m] 41)
  have hka := blk_new w (.cells #[.int .i64 d1, .int .i64 f1, .slice A1 ss1.length c1, .int .i64 d2, .int .i64 f2, .slice A2 ss2.length c2, .slice A3 st.length c3, .slice A4 P.length c4, .slice A5 pp.length c5, .int .i64 m] 41)
  obtain ⟨L, hpl, hL⟩ := hS.i
  have HPL := Lib.hid hpl
  have hpn := hS.p.nb
  clear hpl
  cases h1 : draftOk ⟨d1, f1, ss1, d2, f2, ss2, st⟩
  · have HR := Lib.hid (workOk_no1 (W := (PWork.mk ⟨d1, f1, ss1, d2, f2, ss2, st⟩ P pp m)) h1)
    have H1 := Lib.hid h1
    clear h1
    go_enter Tryz.func16, Tryz.ntmps16
    go_wp2_with (first | (go_at_call 62; refine (s_DraftOk ⟨d1, f1, ss1, d2, f2, ss2, st⟩ B A1 A2 A3 c1 c2 c3 _ (hS2.d) (by simp; omega)).mono ?_; rw [H1.out]; rintro e w1 ⟨rfl, hb1⟩; (have hbw1 : Below w.heap.size w w1 := ((Below.refl _ _).alloc (Nat.le_refl _) _).trans (hb1.mono (by simp))); (have hk1 := blk_next hka hb1); obtain ⟨hx0, hx1, hx2, hx3, hx4, hx5, hx6, hx7, hx8, hx9, hxl⟩ := blk10 hk1))
    go_ret
    exact ⟨ret_bool HR.out.symm, hbw1⟩
  · cases h2 : catOk P
    · have HR := Lib.hid (workOk_no2 (W := (PWork.mk ⟨d1, f1, ss1, d2, f2, ss2, st⟩ P pp m)) h2)
      have H1 := Lib.hid h1
      have H2 := Lib.hid h2
      clear h1 h2
      go_enter Tryz.func16, Tryz.ntmps16
      go_wp2_with (first | (go_at_call 62; refine (s_DraftOk ⟨d1, f1, ss1, d2, f2, ss2, st⟩ B A1 A2 A3 c1 c2 c3 _ (hS2.d) (by simp; omega)).mono ?_; rw [H1.out]; rintro e w1 ⟨rfl, hb1⟩; (have hbw1 : Below w.heap.size w w1 := ((Below.refl _ _).alloc (Nat.le_refl _) _).trans (hb1.mono (by simp))); (have hk1 := blk_next hka hb1); obtain ⟨hx0, hx1, hx2, hx3, hx4, hx5, hx6, hx7, hx8, hx9, hxl⟩ := blk10 hk1) | (go_at_call 63; refine (s_CatalogOk P B A4 P.length c4 L _ HPL.out (hL.below (hbw1.mono hB)) (Nat.le_trans hB hbw1.size)).mono ?_; rw [H2.out]; rintro e w2 ⟨rfl, hb2⟩; (have hbw2 : Below w.heap.size w w2 := hbw1.trans (hb2.mono hbw1.size)); (have hk2 := blk_next hk1 hb2); clear hx0 hx1 hx2 hx3 hx4 hx5 hx6 hx7 hx8 hx9 hxl; obtain ⟨hx0, hx1, hx2, hx3, hx4, hx5, hx6, hx7, hx8, hx9, hxl⟩ := blk10 hk2))
      go_ret
      exact ⟨ret_bool HR.out.symm, hbw2⟩
    · cases h4 : papOk pp
      · have HR := Lib.hid (workOk_no4 (W := (PWork.mk ⟨d1, f1, ss1, d2, f2, ss2, st⟩ P pp m)) h4)
        have H1 := Lib.hid h1
        have H2 := Lib.hid h2
        have H4 := Lib.hid h4
        clear h1 h2 h4
        go_enter Tryz.func16, Tryz.ntmps16
        go_wp2_with (first | (go_at_call 62; refine (s_DraftOk ⟨d1, f1, ss1, d2, f2, ss2, st⟩ B A1 A2 A3 c1 c2 c3 _ (hS2.d) (by simp; omega)).mono ?_; rw [H1.out]; rintro e w1 ⟨rfl, hb1⟩; (have hbw1 : Below w.heap.size w w1 := ((Below.refl _ _).alloc (Nat.le_refl _) _).trans (hb1.mono (by simp))); (have hk1 := blk_next hka hb1); obtain ⟨hx0, hx1, hx2, hx3, hx4, hx5, hx6, hx7, hx8, hx9, hxl⟩ := blk10 hk1) | (go_at_call 63; refine (s_CatalogOk P B A4 P.length c4 L _ HPL.out (hL.below (hbw1.mono hB)) (Nat.le_trans hB hbw1.size)).mono ?_; rw [H2.out]; rintro e w2 ⟨rfl, hb2⟩; (have hbw2 : Below w.heap.size w w2 := hbw1.trans (hb2.mono hbw1.size)); (have hk2 := blk_next hk1 hb2); clear hx0 hx1 hx2 hx3 hx4 hx5 hx6 hx7 hx8 hx9 hxl; obtain ⟨hx0, hx1, hx2, hx3, hx4, hx5, hx6, hx7, hx8, hx9, hxl⟩ := blk10 hk2) | (go_at_call 64; refine (s_l23Ok pp B A5 pp.length c5 _ (hS.p.below (hbw2.mono hB)) (Nat.le_trans hB hbw2.size)).mono ?_; rw [H4.out]; rintro e w3 ⟨rfl, hb3⟩; (have hbw3 : Below w.heap.size w w3 := hbw2.trans (hb3.mono hbw2.size)); (have hk3 := blk_next hk2 hb3); clear hx0 hx1 hx2 hx3 hx4 hx5 hx6 hx7 hx8 hx9 hxl; obtain ⟨hx0, hx1, hx2, hx3, hx4, hx5, hx6, hx7, hx8, hx9, hxl⟩ := blk10 hk3))
        go_ret
        exact ⟨ret_bool HR.out.symm, hbw3⟩
      · by_cases h3 : pp.length ≤ 20
        · have hi3 : (pp.length : Int) ≤ 20 := by omega
          have HR := Lib.hid (workOk_yes (W := (PWork.mk ⟨d1, f1, ss1, d2, f2, ss2, st⟩ P pp m)) h1 h2 h3 h4)
          have H1 := Lib.hid h1
          have H2 := Lib.hid h2
          have H4 := Lib.hid h4
          clear h1 h2 h4
          go_enter Tryz.func16, Tryz.ntmps16
          go_wp2_with (first | (go_at_call 62; refine (s_DraftOk ⟨d1, f1, ss1, d2, f2, ss2, st⟩ B A1 A2 A3 c1 c2 c3 _ (hS2.d) (by simp; omega)).mono ?_; rw [H1.out]; rintro e w1 ⟨rfl, hb1⟩; (have hbw1 : Below w.heap.size w w1 := ((Below.refl _ _).alloc (Nat.le_refl _) _).trans (hb1.mono (by simp))); (have hk1 := blk_next hka hb1); obtain ⟨hx0, hx1, hx2, hx3, hx4, hx5, hx6, hx7, hx8, hx9, hxl⟩ := blk10 hk1) | (go_at_call 63; refine (s_CatalogOk P B A4 P.length c4 L _ HPL.out (hL.below (hbw1.mono hB)) (Nat.le_trans hB hbw1.size)).mono ?_; rw [H2.out]; rintro e w2 ⟨rfl, hb2⟩; (have hbw2 : Below w.heap.size w w2 := hbw1.trans (hb2.mono hbw1.size)); (have hk2 := blk_next hk1 hb2); clear hx0 hx1 hx2 hx3 hx4 hx5 hx6 hx7 hx8 hx9 hxl; obtain ⟨hx0, hx1, hx2, hx3, hx4, hx5, hx6, hx7, hx8, hx9, hxl⟩ := blk10 hk2) | (go_at_call 64; refine (s_l23Ok pp B A5 pp.length c5 _ (hS.p.below (hbw2.mono hB)) (Nat.le_trans hB hbw2.size)).mono ?_; rw [H4.out]; rintro e w3 ⟨rfl, hb3⟩; (have hbw3 : Below w.heap.size w w3 := hbw2.trans (hb3.mono hbw2.size)); (have hk3 := blk_next hk2 hb3); clear hx0 hx1 hx2 hx3 hx4 hx5 hx6 hx7 hx8 hx9 hxl; obtain ⟨hx0, hx1, hx2, hx3, hx4, hx5, hx6, hx7, hx8, hx9, hxl⟩ := blk10 hk3) | (go_at_call 65; refine (s_l01In _ _ _ _).mono ?_; rintro e w' ⟨rfl, rfl⟩))
          go_ret
          exact ⟨ret_bool HR.out.symm, hbw3⟩
        · have hi3 : ¬ (pp.length : Int) ≤ 20 := by omega
          have HR := Lib.hid (workOk_no3 (W := (PWork.mk ⟨d1, f1, ss1, d2, f2, ss2, st⟩ P pp m)) h3)
          have H1 := Lib.hid h1
          have H2 := Lib.hid h2
          have H4 := Lib.hid h4
          clear h1 h2 h4
          go_enter Tryz.func16, Tryz.ntmps16
          go_wp2_with (first | (go_at_call 62; refine (s_DraftOk ⟨d1, f1, ss1, d2, f2, ss2, st⟩ B A1 A2 A3 c1 c2 c3 _ (hS2.d) (by simp; omega)).mono ?_; rw [H1.out]; rintro e w1 ⟨rfl, hb1⟩; (have hbw1 : Below w.heap.size w w1 := ((Below.refl _ _).alloc (Nat.le_refl _) _).trans (hb1.mono (by simp))); (have hk1 := blk_next hka hb1); obtain ⟨hx0, hx1, hx2, hx3, hx4, hx5, hx6, hx7, hx8, hx9, hxl⟩ := blk10 hk1) | (go_at_call 63; refine (s_CatalogOk P B A4 P.length c4 L _ HPL.out (hL.below (hbw1.mono hB)) (Nat.le_trans hB hbw1.size)).mono ?_; rw [H2.out]; rintro e w2 ⟨rfl, hb2⟩; (have hbw2 : Below w.heap.size w w2 := hbw1.trans (hb2.mono hbw1.size)); (have hk2 := blk_next hk1 hb2); clear hx0 hx1 hx2 hx3 hx4 hx5 hx6 hx7 hx8 hx9 hxl; obtain ⟨hx0, hx1, hx2, hx3, hx4, hx5, hx6, hx7, hx8, hx9, hxl⟩ := blk10 hk2) | (go_at_call 64; refine (s_l23Ok pp B A5 pp.length c5 _ (hS.p.below (hbw2.mono hB)) (Nat.le_trans hB hbw2.size)).mono ?_; rw [H4.out]; rintro e w3 ⟨rfl, hb3⟩; (have hbw3 : Below w.heap.size w w3 := hbw2.trans (hb3.mono hbw2.size)); (have hk3 := blk_next hk2 hb3); clear hx0 hx1 hx2 hx3 hx4 hx5 hx6 hx7 hx8 hx9 hxl; obtain ⟨hx0, hx1, hx2, hx3, hx4, hx5, hx6, hx7, hx8, hx9, hxl⟩ := blk10 hk3))
          go_ret
          exact ⟨ret_bool HR.out.symm, hbw3⟩
end Go.Proofs.YtdddglihomchfaaGreat
namespace Go.Proofs.YtdddglihomchfaaGreat
open Go.ChangeShapes Go.WideShapes Go.ChangeAt Go.RowKit
set_option linter.unusedVariables false
set_option maxRecDepth 10000
theorem stepCells_one (l : List PStep) : ∀ u ∈ l.flatMap stepCells, u.oneCell' = true := by
  intro u hu
  obtain ⟨s, _, h⟩ := List.mem_flatMap.1 hu
  simp [stepCells] at h
  rcases h with rfl | rfl | rfl | rfl | rfl | rfl | rfl <;> rfl
theorem fresh_steps {base n : Nat} {v : Value} {l : List PStep} {w w' : World} (hl : l.length = n) (ho : w'.ownsRow base 65 7 v n (l.flatMap stepCells)) (hb : Below w.heap.size w w') : FreshSteps base l w (.returned v) w' := by
  subst hl
  obtain ⟨A, c, rfl⟩ := own_slice ho
  exact ⟨A, c, rfl, ho, hb⟩
set_option maxHeartbeats 800000 in
theorem clone_step (B : Nat) (A : Option Addr) (n c : Nat) (l : List PStep) (w : World) (hS : Steps w B A n l) (hB : B ≤ w.heap.size) :
    Calls Tryz.prog 174 #[.slice A n c] w (FreshSteps w.heap.size l w) := by
  have hn := hS.nb
  have hl := hS.len
  have hR := hS.rd
  rcases A with _ | ad
  · have hn0 : n = 0 := by
      rcases Nat.eq_zero_or_pos n with h0 | h0
      · exact h0
      · obtain ⟨_, ad, h, _⟩ := hS.at_ h0; cases h
    subst hn0
    have hs0 : l = [] := List.eq_nil_of_length_eq_zero hl
    subst hs0
    have hnil := fun W => Lib.run_eql_slice_nil (P := Tryz.prog) W 35
    clear hl
    go_enter Tryz.func174, Tryz.ntmps174
    go_wp2
    go_ret
    exact ⟨none, 0, rfl, World.ownsRow_nil w _ _ _, Below.refl _ _⟩
  · have hnil := fun W => Lib.run_eql_slice_nil (P := Tryz.prog) W 35
    obtain ⟨i0, hi0, hz0, hz1, hz2⟩ := info_parts info_stepCells
    have hown : (w.alloc (.cells #[] 65)).ownsRow w.heap.size 65 7 (.slice (some ⟨w.heap.size, 0, none⟩) 0 0) 0 [] := World.ownsRow_made w #[] 0 (Nat.le_refl _) (by unfold maxLen; omega) rfl
    have hR1 := hR.alloc hB (.cells #[] 65)
    have hone := stepCells_one l
    have HL := Lib.hid hl
    have HONE := hide hone
    clear hl hone
    go_enter Tryz.func174, Tryz.ntmps174
    go_wp2_with (at_builtin; refine wpList_append_N _ rfl (.tmp 5) (.tmp 6) _ rfl w.heap.size 65 i0 _ 7 72 Tryz.underlying35 hi0 hz0 hz1 hz2 rfl (by omega) (.slice (some ⟨w.heap.size, 0, none⟩) 0 0) 0 [] rfl hown B (some ad) n c (l.flatMap stepCells) rfl hR1 (unhide HONE) ?_ ?_ ?_ n _ (by omega) (List.nil_append _) ?_; (unfold maxLen; omega); omega; (simp); intro A1 c1 w1 hown1 hb1)
    have hfr := fresh_steps (l := l) (n := n) HL.out hown1 (((Below.refl w.heap.size w).alloc (Nat.le_refl _) _).trans hb1)
    have HFR := hide hfr
    clear hfr hown1
    go_ret
    exact (unhide HFR)
def FreshDraftX (base : Nat) (d1 f1 : Int) (ss1 : List ByteArray) (d2 f2 : Int) (ss2 : List ByteArray) (st : List PStep) (w : World) (e : Ending) (w' : World) : Prop :=
  ∃ B1 e1 B2 e2 B3 e3, e = .returned (.agg #[.int .i64 d1, .int .i64 f1, .slice B1 ss1.length e1, .int .i64 d2, .int .i64 f2, .slice B2 ss2.length e2, .slice B3 st.length e3]) ∧ OwnDraft w' base B1 e1 B2 e2 B3 e3 ⟨d1, f1, ss1, d2, f2, ss2, st⟩ ∧ Below w.heap.size w w'
set_option maxHeartbeats 3200000 in
theorem i_draftCopied (d1 f1 : Int) (ss1 : List ByteArray) (d2 f2 : Int) (ss2 : List ByteArray) (st : List PStep) (B : Nat) (A1 A2 A3 : Option Addr) (c1 c2 c3 : Nat) (w : World) (hS : RdDraft w B A1 A2 A3 ⟨d1, f1, ss1, d2, f2, ss2, st⟩) (hB : B ≤ w.heap.size) :
    Calls Tryz.prog 144 #[.agg #[.int .i64 d1, .int .i64 f1, .slice A1 ss1.length c1, .int .i64 d2, .int .i64 f2, .slice A2 ss2.length c2, .slice A3 st.length c3]] w (FreshDraftX w.heap.size d1 f1 ss1 d2 f2 ss2 st w) := by
  have h1 : Strs w B A1 ss1.length ss1 := hS.s1
  have h2 : Strs w B A2 ss2.length ss2 := hS.s2
  have h3 : Steps w B A3 st.length st := hS.st
  have hn1 := h1.nb
  have hn2 := h2.nb
  have hn3 := h3.nb
  go_enter Tryz.func144, Tryz.ntmps144
  go_wp2
  have hbW : Below w.heap.size w ((w.alloc (.cells #[.int .i64 d1, .int .i64 f1, .slice A1 ss1.length c1, .int .i64 d2, .int .i64 f2, .slice A2 ss2.length c2, .slice A3 st.length c3] 37)).alloc (.cells #[.int .i64 0, .int .i64 0, .slice none 0 0, .int .i64 0, .int .i64 0, .slice none 0 0, .slice none 0 0] 37)) := bel
  have hk1 := box_first w (.cells #[.int .i64 d1, .int .i64 f1, .slice A1 ss1.length c1, .int .i64 d2, .int .i64 f2, .slice A2 ss2.length c2, .slice A3 st.length c3] 37) (.cells #[.int .i64 0, .int .i64 0, .slice none 0 0, .int .i64 0, .int .i64 0, .slice none 0 0, .slice none 0 0] 37)
  have hk2 := box_second w (.cells #[.int .i64 d1, .int .i64 f1, .slice A1 ss1.length c1, .int .i64 d2, .int .i64 f2, .slice A2 ss2.length c2, .slice A3 st.length c3] 37) (.cells #[.int .i64 0, .int .i64 0, .slice none 0 0, .int .i64 0, .int .i64 0, .slice none 0 0, .slice none 0 0] 37)
  generalize ((w.alloc (.cells #[.int .i64 d1, .int .i64 f1, .slice A1 ss1.length c1, .int .i64 d2, .int .i64 f2, .slice A2 ss2.length c2, .slice A3 st.length c3] 37)).alloc (.cells #[.int .i64 0, .int .i64 0, .slice none 0 0, .int .i64 0, .int .i64 0, .slice none 0 0, .slice none 0 0] 37)) = w0 at *
  have hzw := hbW.size
  have hz0 := blk_lt hk1
  have hz1 := blk_lt hk2
  obtain ⟨hx0, hx1, hx2, hx3, hx4, hx5, hx6, hxl⟩ := blk7 hk1
  obtain ⟨hy0, hy1, hy2, hy3, hy4, hy5, hy6, hyl⟩ := blk7 hk2
  have g1 := h1.below (hbW.mono hB)
  have g2 := h2.below (hbW.mono hB)
  have g3 := h3.below (hbW.mono hB)
  have hB0 : B ≤ w0.heap.size := by omega
  have hB1 : B ≤ w.heap.size + 1 := by omega
  go_region_held3 (fun W => (∀ b o, b < w.heap.size + 1 → W.cell? ⟨b, o, none⟩ = (w0).cell? ⟨b, o, none⟩) ∧ (∀ b o, b < w.heap.size + 1 → W.frozen? ⟨b, o, none⟩ = (w0).frozen? ⟨b, o, none⟩) ∧ Below (w.heap.size + 1) (w0) W) (exact keep_of bel) (first | (go_at_call_of 79 (Value.agg #[.int .i64 d1, .int .i64 f1, .slice A1 ss1.length c1]); have hq := (‹_ ∧ _ ∧ Below _ _ _›).2.2; refine (i_copied d1 f1 B _ _ _ ss1 _ (g1.below (hq.mono hB1)) (Nat.le_trans hB0 hq.size)).mono ?_; rintro e w1 ⟨B1, e1, rfl, ho1, hb1⟩; have hqs1 := hq.size; have hbs1 := hb1.size; (try simp at hqs1); (try simp at hbs1); (have hkk1 : w1.heap[w.heap.size + 1]? = some (.cells #[.int .i64 0, .int .i64 0, .slice none 0 0, .int .i64 0, .int .i64 0, .slice none 0 0, .slice none 0 0] 37) := (by first | exact blk_next hk2 hb1 | exact blk_next (blk_drew hk2) hb1))) | (go_at_call_of 79 (Value.agg #[.int .i64 d2, .int .i64 f2, .slice A2 ss2.length c2]); have hq := (‹_ ∧ _ ∧ Below _ _ _›).2.2; refine (i_copied d2 f2 B _ _ _ ss2 _ (g2.below (hq.mono hB1)) (Nat.le_trans hB0 hq.size)).mono ?_; rintro e w2 ⟨B2, e2, rfl, ho2, hb2⟩; have hqs2 := hq.size; have hbs2 := hb2.size; (try simp at hqs2); (try simp at hbs2); have hkk2 := blk_next hkk1 hb2) | (go_at_call 174; have hq := (‹_ ∧ _ ∧ Below _ _ _›).2.2; refine (clone_step B _ _ _ st _ (g3.below (hq.mono hB1)) (Nat.le_trans hB0 hq.size)).mono ?_; rintro e w3 ⟨B3, e3, rfl, ho3, hb3⟩; have hqs3 := hq.size; have hbs3 := hb3.size; (try simp at hqs3); (try simp at hbs3); have hkk := blk_next hkk2 hb3; have hf0 := (blk_cells hkk 0).2; have hf1 := (blk_cells hkk 1).2; have hf2 := (blk_cells hkk 2).2; have hf3 := (blk_cells hkk 3).2; have hf4 := (blk_cells hkk 4).2; have hf5 := (blk_cells hkk 5).2; have hf6 := (blk_cells hkk 6).2; obtain ⟨hv0, hv1, hv2, hv3, hv4, hv5, hv6, hvl⟩ := blk7 hkk))
  go_wp2
  have hne : ∀ k, (Value.slice B1 ss1.length e1).ownBlock = some k → (Value.slice B2 ss2.length e2).ownBlock ≠ some k := by
    intro k hk hk2
    have a := (ho1.lt k hk).2
    have b := (ho2.lt k hk2).1
    omega
  have hb01 : Below w0.heap.size w0 w1 := by first | exact hb1 | exact (Below.refl _ _).drew.trans hb1
  have hbw3 : Below w.heap.size w w3 := hbW.trans (((hb01.mono hzw).trans (hb2.mono (by omega))).trans (hb3.mono (by omega)))
  have hzd : w0.drew.heap.size = w0.heap.size := rfl
  clear hbW hb01
  refine bodyPost_ret (v := .agg #[.int .i64 d1, .int .i64 f1, .slice B1 ss1.length e1, .int .i64 d2, .int .i64 f2, .slice B2 ss2.length e2, .slice B3 st.length e3]) (by simp [results, Tryz.results144, go_sem, *]) rfl ?_
  have HBW3 := hide hbw3
  clear hbw3
  refine ⟨B1, e1, B2, e2, B3, e3, rfl, ⟨own_up ho1 upr (by first | exact Nat.le_refl _ | (simp; done) | omega | (simp; omega) | exact (‹_ ∧ _ ∧ Below _ _ _›).2.2.size), own_up ho2 upr (by first | exact Nat.le_refl _ | (simp; done) | omega | (simp; omega) | exact (‹_ ∧ _ ∧ Below _ _ _›).2.2.size), own_up ho3 upr (by first | exact Nat.le_refl _ | (simp; done) | omega | (simp; omega) | exact (‹_ ∧ _ ∧ Below _ _ _›).2.2.size), hne⟩, ?_⟩
  have hbw3 := unhide HBW3
  clear hb1 hb2 hb3
  exact bel
end Go.Proofs.YtdddglihomchfaaGreat
namespace Go.Proofs.YtdddglihomchfaaGreat
open Go.ChangeShapes Go.WideShapes Go.ChangeAt Go.RowKit
set_option linter.unusedVariables false
set_option maxRecDepth 10000
theorem u_draftCopied (d1 f1 : Int) (ss1 : List ByteArray) (d2 f2 : Int) (ss2 : List ByteArray) (st : List PStep) (B : Nat) (A1 A2 A3 : Option Addr) (c1 c2 c3 : Nat) (w : World) (hS : RdDraft w B A1 A2 A3 ⟨d1, f1, ss1, d2, f2, ss2, st⟩) (hB : B ≤ w.heap.size) :
    Calls Tryz.prog 144 #[.agg #[.int .i64 d1, .int .i64 f1, .slice A1 ss1.length c1, .int .i64 d2, .int .i64 f2, .slice A2 ss2.length c2, .slice A3 st.length c3]] w (UDraft d1 f1 ss1 d2 f2 ss2 st w) :=
  (i_draftCopied d1 f1 ss1 d2 f2 ss2 st B A1 A2 A3 c1 c2 c3 w hS hB).mono fun _ _ h => by
    obtain ⟨B1, e1, B2, e2, B3, e3, he, ho, hb⟩ := h
    exact ⟨B1, e1, B2, e2, B3, e3, he, OwnD.of ho (Nat.le_refl _), hb⟩
set_option maxHeartbeats 6400000 in
theorem u_l37Copy (d1 f1 : Int) (ss1 : List ByteArray) (d2 f2 : Int) (ss2 : List ByteArray) (st : List PStep) (B : Nat) (A1 A2 A3 : Option Addr) (c1 c2 c3 : Nat) (w : World) (hS : RdDraft w B A1 A2 A3 ⟨d1, f1, ss1, d2, f2, ss2, st⟩) (hB : B ≤ w.heap.size) :
    Calls Tryz.prog 142 #[.agg #[.int .i64 d1, .int .i64 f1, .slice A1 ss1.length c1, .int .i64 d2, .int .i64 f2, .slice A2 ss2.length c2, .slice A3 st.length c3]] w (UDraft d1 f1 ss1 d2 f2 ss2 st w) := by
  have h1 : Strs w B A1 ss1.length ss1 := hS.s1
  have h2 : Strs w B A2 ss2.length ss2 := hS.s2
  have h3 : Steps w B A3 st.length st := hS.st
  have hn1 := h1.nb
  have hn2 := h2.nb
  have hn3 := h3.nb
  have hone := stepCells_one st
  have HONE := hide hone
  clear hone
  obtain ⟨i0, hi0, hz0, hz1, hz2⟩ := info_parts info_stepCells
  go_enter Tryz.func142, Tryz.ntmps142
  go_wp2
  have hbW : Below w.heap.size w ((w.alloc (.cells #[.int .i64 d1, .int .i64 f1, .slice A1 ss1.length c1, .int .i64 d2, .int .i64 f2, .slice A2 ss2.length c2, .slice A3 st.length c3] 37)).alloc (.cells #[.int .i64 0, .int .i64 0, .slice none 0 0, .int .i64 0, .int .i64 0, .slice none 0 0, .slice none 0 0] 37)) := bel
  have hk1 := box_first w (.cells #[.int .i64 d1, .int .i64 f1, .slice A1 ss1.length c1, .int .i64 d2, .int .i64 f2, .slice A2 ss2.length c2, .slice A3 st.length c3] 37) (.cells #[.int .i64 0, .int .i64 0, .slice none 0 0, .int .i64 0, .int .i64 0, .slice none 0 0, .slice none 0 0] 37)
  have hk2 := box_second w (.cells #[.int .i64 d1, .int .i64 f1, .slice A1 ss1.length c1, .int .i64 d2, .int .i64 f2, .slice A2 ss2.length c2, .slice A3 st.length c3] 37) (.cells #[.int .i64 0, .int .i64 0, .slice none 0 0, .int .i64 0, .int .i64 0, .slice none 0 0, .slice none 0 0] 37)
  generalize ((w.alloc (.cells #[.int .i64 d1, .int .i64 f1, .slice A1 ss1.length c1, .int .i64 d2, .int .i64 f2, .slice A2 ss2.length c2, .slice A3 st.length c3] 37)).alloc (.cells #[.int .i64 0, .int .i64 0, .slice none 0 0, .int .i64 0, .int .i64 0, .slice none 0 0, .slice none 0 0] 37)) = w0 at *
  have hzw := hbW.size
  have hz0_ := blk_lt hk1
  have hz1_ := blk_lt hk2
  obtain ⟨hx0, hx1, hx2, hx3, hx4, hx5, hx6, hxl⟩ := blk7 hk1
  have g1 := h1.below (hbW.mono hB)
  have g2 := h2.below (hbW.mono hB)
  have g3 := h3.below (hbW.mono hB)
  have hB0 : B ≤ w0.heap.size := by omega
  have hB1 : B ≤ w.heap.size + 1 := by omega
  have hz1q : w.heap.size + 1 ≤ w0.heap.size := by omega
  go_region_held3 (fun W => (∀ b o, b < w.heap.size + 1 → W.cell? ⟨b, o, none⟩ = (w0).cell? ⟨b, o, none⟩) ∧ (∀ b o, b < w.heap.size + 1 → W.frozen? ⟨b, o, none⟩ = (w0).frozen? ⟨b, o, none⟩) ∧ Below (w.heap.size + 1) (w0) W) (exact keep_of bel) (first | (go_at_call_of 77 (Value.agg #[.int .i64 d1, .int .i64 f1, .slice A1 ss1.length c1]); have hq := (‹_ ∧ _ ∧ Below _ _ _›).2.2; refine (s_l05Copy d1 f1 B _ _ _ ss1 _ (g1.below (hq.mono hB1)) (Nat.le_trans hB0 hq.size)).mono ?_; rintro e w1 ⟨B1, e1, rfl, hor, hb1⟩; (have ho1 := own_base (base' := w0.heap.size) hor (by first | exact hq.size | exact Nat.le_refl _)); have hqs1 := hq.size; have hbs1 := hb1.size; (try simp at hqs1); (try simp at hbs1);(have hkk1 : w1.heap[w.heap.size + 1]? = some (.cells #[.int .i64 0, .int .i64 0, .slice none 0 0, .int .i64 0, .int .i64 0, .slice none 0 0, .slice none 0 0] 37) := (by first | exact blk_next hk2 hb1 | exact blk_next (blk_drew hk2) hb1 | exact blk_next (blk_alloc hk2 _) hb1 | exact blk_next (blk_drew (blk_alloc hk2 _)) hb1)); (have hlt1 : ∀ k, (Value.slice B1 ss1.length e1).ownBlock = some k → k < w1.heap.size := fun k hk => (ho1.lt k hk).2)) | (go_at_call_of 77 (Value.agg #[.int .i64 d2, .int .i64 f2, .slice A2 ss2.length c2]); have hq := (‹_ ∧ _ ∧ Below _ _ _›).2.2; refine (s_l05Copy d2 f2 B _ _ _ ss2 _ (g2.below (hq.mono hB1)) (Nat.le_trans hB0 hq.size)).mono ?_; rintro e w2 ⟨B2, e2, rfl, hor, hb2⟩; (have ho2 := own_base (base' := w0.heap.size) hor (by first | exact hq.size | exact Nat.le_refl _)); have hqs2 := hq.size; have hbs2 := hb2.size; (try simp at hqs2); (try simp at hbs2);(have hkk2 : w2.heap[w.heap.size + 1]? = some (.cells #[.int .i64 0, .int .i64 0, .slice none 0 0, .int .i64 0, .int .i64 0, .slice none 0 0, .slice none 0 0] 37) := (by first | exact blk_next hkk1 hb2 | exact blk_next (blk_drew hkk1) hb2 | exact blk_next (blk_alloc hkk1 _) hb2 | exact blk_next (blk_drew (blk_alloc hkk1 _)) hb2)); (have hne : ∀ k, (Value.slice B1 ss1.length e1).ownBlock = some k → (Value.slice B2 ss2.length e2).ownBlock ≠ some k := (by intro k hk hk2; have a := hlt1 k hk; have b := (hor.lt k hk2).1; have b2 := hq.size; (try simp at b); omega))) | ((have hb2X : Below w1.heap.size w1 w2 := (by first | exact hb2 | exact ⟨hb2.os, hb2.tape, hb2.output, hb2.size, hb2.block⟩)); (have hoE : World.ownsRow w2 w0.heap.size 65 7 (.slice (some ⟨w0.heap.size, 0, none⟩) 0 0) 0 [] := own_below (own_below (made_at w0 _ _ rfl (by omega)) (show Below (w0.alloc (.cells #[] 65)).heap.size (w0.alloc (.cells #[] 65)) w1 from (by first | exact hb1 | exact ⟨hb1.os, hb1.tape, hb1.output, hb1.size, hb1.block⟩))) hb2X); refine step_append_any _ rfl (.tmp 9) (.tmp 11) _ rfl w0.heap.size 65 i0 _ 7 72 Tryz.underlying35 hi0 hz0 hz1 hz2 rfl (by omega) (.slice (some ⟨w0.heap.size, 0, none⟩) 0 0) 0 [] rfl ?_ B A3 st.length c3 (st.flatMap stepCells) rfl ?_ (unhide HONE) ?_ ?_ ?_ ?_; (first | exact hoE | exact ⟨hoE.1, hoE.2⟩); (have hq := (‹_ ∧ _ ∧ Below _ _ _›).2.2; exact g3.rd.below (hq.mono hB1)); (unfold maxLen; omega); omega; (have hq := (‹_ ∧ _ ∧ Below _ _ _›).2.2; exact hq.size); intro v3 w3 ho3 hg3 hat3; (have hz3 := hg3.size; (try simp at hz3)); have hq3 := (‹_ ∧ _ ∧ Below _ _ _›).2.2; (have hbw3 := grown_below hg3 (B := w.heap.size + 1) (fun k hk => Nat.le_trans hz1q (hoE.lt k hk).1) (Nat.le_trans hz1q hq3.size)); (have hbq3 := hq3.trans hbw3); (have hg3X : World.grownBy w2 w3 (Value.ownBlock (.slice (some ⟨w0.heap.size, 0, none⟩) 0 0)) := (by first | exact hg3 | exact ⟨hg3.os, hg3.tape, hg3.output, hg3.size, hg3.block⟩)); have hkW := hkk2; (have hkk3 := blk_markedk hkW hg3X hoE (by decide)); (have hoo1 := own_grown (own_below ho1 hb2X) hg3X (fun k hk he => own_ne_type (own_below ho1 hb2X) hoE (by decide) k hk he)); (have hoo2 := own_grown ho2 hg3X (fun k hk he => own_ne_type ho2 hoE (by decide) k hk he)); clear hg3X hg3 hkW hoE hb2X hat3 hbw3; obtain ⟨hv0, hv1, hv2, hv3, hv4, hv5, hv6, hvl⟩ := blk7 hkk3; have hf0 := (blk_cells hkk3 0).2; have hf1 := (blk_cells hkk3 1).2; have hf2 := (blk_cells hkk3 2).2; have hf3 := (blk_cells hkk3 3).2; have hf4 := (blk_cells hkk3 4).2; have hf5 := (blk_cells hkk3 5).2; have hf6 := (blk_cells hkk3 6).2; rw [Nat.zero_add, List.nil_append] at ho3; obtain ⟨B3, e3, rfl⟩ := own_slice ho3) | ((have hb2X : Below (w1.alloc (.cells #[] 65)).heap.size (w1.alloc (.cells #[] 65)) w2 := (by first | exact hb2 | exact ⟨hb2.os, hb2.tape, hb2.output, hb2.size, hb2.block⟩)); (have hoE : World.ownsRow w2 w0.heap.size 65 7 (.slice (some ⟨w1.heap.size, 0, none⟩) 0 0) 0 [] := own_below (made_at w1 _ _ rfl (by omega)) (show Below (w1.alloc (.cells #[] 65)).heap.size (w1.alloc (.cells #[] 65)) w2 from hb2X)); refine step_append_any _ rfl (.tmp 9) (.tmp 11) _ rfl w0.heap.size 65 i0 _ 7 72 Tryz.underlying35 hi0 hz0 hz1 hz2 rfl (by omega) (.slice (some ⟨w1.heap.size, 0, none⟩) 0 0) 0 [] rfl ?_ B A3 st.length c3 (st.flatMap stepCells) rfl ?_ (unhide HONE) ?_ ?_ ?_ ?_; (first | exact hoE | exact ⟨hoE.1, hoE.2⟩); (have hq := (‹_ ∧ _ ∧ Below _ _ _›).2.2; exact g3.rd.below (hq.mono hB1)); (unfold maxLen; omega); omega; (have hq := (‹_ ∧ _ ∧ Below _ _ _›).2.2; exact hq.size); intro v3 w3 ho3 hg3 hat3; (have hz3 := hg3.size; (try simp at hz3)); have hq3 := (‹_ ∧ _ ∧ Below _ _ _›).2.2; (have hbw3 := grown_below hg3 (B := w.heap.size + 1) (fun k hk => Nat.le_trans hz1q (hoE.lt k hk).1) (Nat.le_trans hz1q hq3.size)); (have hbq3 := hq3.trans hbw3); (have hg3X : World.grownBy w2 w3 (Value.ownBlock (.slice (some ⟨w1.heap.size, 0, none⟩) 0 0)) := (by first | exact hg3 | exact ⟨hg3.os, hg3.tape, hg3.output, hg3.size, hg3.block⟩)); have hkW := hkk2; (have hkk3 := blk_markedk hkW hg3X hoE (by decide)); (have hoo1 := own_grown (own_below (ho1.alloc (.cells #[] 65)) (show Below (w1.alloc (.cells #[] 65)).heap.size (w1.alloc (.cells #[] 65)) w2 from hb2X)) hg3X (fun k hk he => own_ne_type (own_below (ho1.alloc (.cells #[] 65)) (show Below (w1.alloc (.cells #[] 65)).heap.size (w1.alloc (.cells #[] 65)) w2 from hb2X)) hoE (by decide) k hk he)); (have hoo2 := own_grown ho2 hg3X (fun k hk he => own_ne_type ho2 hoE (by decide) k hk he)); clear hg3X hg3 hkW hoE hb2X hat3 hbw3; obtain ⟨hv0, hv1, hv2, hv3, hv4, hv5, hv6, hvl⟩ := blk7 hkk3; have hf0 := (blk_cells hkk3 0).2; have hf1 := (blk_cells hkk3 1).2; have hf2 := (blk_cells hkk3 2).2; have hf3 := (blk_cells hkk3 3).2; have hf4 := (blk_cells hkk3 4).2; have hf5 := (blk_cells hkk3 5).2; have hf6 := (blk_cells hkk3 6).2; rw [Nat.zero_add, List.nil_append] at ho3; obtain ⟨B3, e3, rfl⟩ := own_slice ho3) | ((have hb2X : Below w1.heap.size w1 w2 := (by first | exact hb2 | exact ⟨hb2.os, hb2.tape, hb2.output, hb2.size, hb2.block⟩)); (have hoE : World.ownsRow (w2.alloc (.cells #[] 65)) w0.heap.size 65 7 (.slice (some ⟨w2.heap.size, 0, none⟩) 0 0) 0 [] := made_at w2 _ _ rfl (by omega)); refine step_append_any _ rfl (.tmp 9) (.tmp 11) _ rfl w0.heap.size 65 i0 _ 7 72 Tryz.underlying35 hi0 hz0 hz1 hz2 rfl (by omega) (.slice (some ⟨w2.heap.size, 0, none⟩) 0 0) 0 [] rfl ?_ B A3 st.length c3 (st.flatMap stepCells) rfl ?_ (unhide HONE) ?_ ?_ ?_ ?_; (first | exact hoE | exact ⟨hoE.1, hoE.2⟩); (have hq := (‹_ ∧ _ ∧ Below _ _ _›).2.2; exact g3.rd.below (hq.mono hB1)); (unfold maxLen; omega); omega; (have hq := (‹_ ∧ _ ∧ Below _ _ _›).2.2; exact hq.size); intro v3 w3 ho3 hg3 hat3; (have hz3 := hg3.size; (try simp at hz3)); have hq3 := (‹_ ∧ _ ∧ Below _ _ _›).2.2; (have hbw3 := grown_below hg3 (B := w.heap.size + 1) (fun k hk => Nat.le_trans hz1q (hoE.lt k hk).1) (Nat.le_trans hz1q hq3.size)); (have hbq3 := hq3.trans hbw3); (have hg3X : World.grownBy (w2.alloc (.cells #[] 65)) w3 (Value.ownBlock (.slice (some ⟨w2.heap.size, 0, none⟩) 0 0)) := (by first | exact hg3 | exact ⟨hg3.os, hg3.tape, hg3.output, hg3.size, hg3.block⟩)); have hkW := (blk_alloc hkk2 (.cells #[] 65)); (have hkk3 := blk_markedk hkW hg3X hoE (by decide)); (have hoo1 := own_grown ((own_below ho1 hb2X).alloc (.cells #[] 65)) hg3X (fun k hk he => own_ne_type ((own_below ho1 hb2X).alloc (.cells #[] 65)) hoE (by decide) k hk he)); (have hoo2 := own_grown (ho2.alloc (.cells #[] 65)) hg3X (fun k hk he => own_ne_type (ho2.alloc (.cells #[] 65)) hoE (by decide) k hk he)); clear hg3X hg3 hkW hoE hb2X hat3 hbw3; obtain ⟨hv0, hv1, hv2, hv3, hv4, hv5, hv6, hvl⟩ := blk7 hkk3; have hf0 := (blk_cells hkk3 0).2; have hf1 := (blk_cells hkk3 1).2; have hf2 := (blk_cells hkk3 2).2; have hf3 := (blk_cells hkk3 3).2; have hf4 := (blk_cells hkk3 4).2; have hf5 := (blk_cells hkk3 5).2; have hf6 := (blk_cells hkk3 6).2; rw [Nat.zero_add, List.nil_append] at ho3; obtain ⟨B3, e3, rfl⟩ := own_slice ho3))
  all_goals (
    go_wp2
    have hzf := hbq3.size
    have hbw9 : Below w.heap.size w w3 := hbW.trans (hbq3.mono (by omega))
    refine bodyPost_ret (v := .agg #[.int .i64 d1, .int .i64 f1, .slice B1 ss1.length e1, .int .i64 d2, .int .i64 f2, .slice B2 ss2.length e2, .slice B3 st.length e3]) (by simp [results, Tryz.results142, go_sem, *]) rfl ?_
    have hbx := boxAt_of hkk3
    have HBW9 := hide hbw9
    clear hbw9
    refine ⟨B1, e1, B2, e2, B3, e3, rfl, ⟨(OwnS.of (own_base hoo1 hzw) (Nat.le_refl _)).boxy (by repeat (first | (with_reducible exact Boxy.refl _) | (with_reducible refine Boxy.drew ?_) | (with_reducible refine Boxy.drewN ?_ _) | (with_reducible refine Boxy.alloc ?_ _) | ((with_reducible refine Boxy.setCell ?_ ?hbs _); (case hbs => first | (with_reducible exact .inl (by assumption)) | exact .inl (by assumption) | exact .inr (by simp) | exact .inr (by simp; omega))))) |>.wide (Nat.le_refl _) (by simp), (OwnS.of (own_base hoo2 hzw) (Nat.le_refl _)).boxy (by repeat (first | (with_reducible exact Boxy.refl _) | (with_reducible refine Boxy.drew ?_) | (with_reducible refine Boxy.drewN ?_ _) | (with_reducible refine Boxy.alloc ?_ _) | ((with_reducible refine Boxy.setCell ?_ ?hbs _); (case hbs => first | (with_reducible exact .inl (by assumption)) | exact .inl (by assumption) | exact .inr (by simp) | exact .inr (by simp; omega))))) |>.wide (Nat.le_refl _) (by simp), (OwnSt.of (own_base ho3 hzw) (Nat.le_refl _)).boxy (by repeat (first | (with_reducible exact Boxy.refl _) | (with_reducible refine Boxy.drew ?_) | (with_reducible refine Boxy.drewN ?_ _) | (with_reducible refine Boxy.alloc ?_ _) | ((with_reducible refine Boxy.setCell ?_ ?hbs _); (case hbs => first | (with_reducible exact .inl (by assumption)) | exact .inl (by assumption) | exact .inr (by simp) | exact .inr (by simp; omega))))) |>.wide (Nat.le_refl _) (by simp), hne⟩, ?_⟩
    have hbw9 := unhide HBW9
    clear hb1 hb2
    exact bel)
end Go.Proofs.YtdddglihomchfaaGreat
namespace Go.Proofs.YtdddglihomchfaaGreat
open Go.ChangeShapes Go.WideShapes Go.ChangeAt Go.RowKit
set_option linter.unusedVariables false
set_option maxRecDepth 10000
theorem reads_new4 (W : World) (cs : Array Value) (t : TypeId) (n size : Nat) (h : cs.size = n * size) : Reads (W.alloc (.cells cs t)) (W.heap.size + 1) size (some ⟨W.heap.size, 0, none⟩) n cs.toList :=
  ⟨by simpa using h, fun _ => ⟨_, rfl, by simp, fun j u hj => World.news_of_block (blk_new W (.cells cs t)) j u hj⟩⟩
theorem keep_box {B b : Nat} {a W : World} {c0 c1 c2 c3 : Value} {t : TypeId} (h : Below B a W) (hk : W.heap[b]? = some (.cells #[c0, c1, c2, c3] t (0, 0))) : (∀ p : Addr, p.block < B → W.cell? p = a.cell? p) ∧ (W.cell? ⟨b, 0, none⟩ = some c0 ∧ W.cell? ⟨b, 1, none⟩ = some c1 ∧ W.cell? ⟨b, 2, none⟩ = some c2 ∧ W.cell? ⟨b, 3, none⟩ = some c3) ∧ Below B a W :=
  ⟨fun _ hp => h.cell hp, ⟨(blk4 hk).1, (blk4 hk).2.1, (blk4 hk).2.2.1, (blk4 hk).2.2.2.1⟩, h⟩
theorem itemCells_one1 (s : RItem) : ∀ u ∈ itemCells s, u.oneCell' = true := by
  intro u h
  simp [itemCells] at h
  rcases h with rfl | rfl | rfl | rfl <;> rfl
set_option maxHeartbeats 6400000 in
theorem u_copyItems (P : List PItem) (B : Nat) (A : Option Addr) (n c : Nat) (L : List RItem) (w : World) (hp : plI L = P) (hS : Items w B A n L) (hB : B ≤ w.heap.size) :
    Calls Tryz.prog 145 #[.slice A n c] w (UItems P w) := by
  have hn := hS.nb
  have hl : P.length = n := by rw [← hp, plI_len, hS.len]
  have HL := Lib.hid hl
  have HP := Lib.hid hp
  clear hl hp
  obtain ⟨i0, hi0, hz0, hz1i, hz2⟩ := info_parts info_itemCells
  go_enter Tryz.func145, Tryz.ntmps145
  go_wp2
  go_loopw [3, 5, 9] (fun q y i wr => ∃ (j : Nat) (A9 : Option Addr) (c9 : Nat) (M : List RItem), j ≤ n ∧ i = .int .i64 j ∧ q = .slice A9 j c9 ∧ Hid (M.length = j) ∧ Hid (plI M = P.take j) ∧ OwnItems wr w.heap.size wr.heap.size A9 j c9 M ∧ Below w.heap.size w wr) (fun _ _ i _ => n - (intOf i).toNat)
  case atStart =>
    have h := made_at (e := 132) (size := 4) w w.heap.size w.heap.size rfl (Nat.le_refl _)
    exact ⟨0, _, _, [], Nat.zero_le _, rfl, rfl, rfl, rfl, OwnItems.nil h (fun k hk => (h.lt k hk).2), bel⟩
  case round =>
    obtain ⟨j, A9, c9, M, hj, rfl, rfl, HM, HT, hown, hb⟩ := hrel
    have hzr := hb.size
    by_cases hlt : j < n
    · have hSr := hS.below (hb.mono hB)
      obtain ⟨hk1, ad, rfl, hab, hc0, hc1, hc2, hc3, hss, hnm⟩ := hSr.at_ hlt
      have hx : (plI L)[j]'(by rw [plI_len]; exact hk1) = L[j].x := by simp [plI]
      have HTK : Hid (P.take (j + 1) = P.take j ++ [L[j].x]) := by
        unfold Hid
        have hP := HP.out
        subst hP
        rw [List.take_succ_eq_append_getElem (by rw [plI_len]; exact hk1), hx]
      clear hx
      generalize L[j] = r at *
      obtain ⟨⟨nm, d, f, ss⟩, A0, c0⟩ := r
      simp only at hc0 hc1 hc2 hc3 hss hnm HTK
      have hn0 := hss.nb
      go_wp2
      have hk0 := blk_new wr (.cells #[.string nm, .int .i64 d, .int .i64 f, .slice A0 ss.length c0] 132)
      have hbW : Below wr.heap.size wr (wr.alloc (.cells #[.string nm, .int .i64 d, .int .i64 f, .slice A0 ss.length c0] 132)) := bel
      have hs0 := hss.alloc (by omega) (.cells #[.string nm, .int .i64 d, .int .i64 f, .slice A0 ss.length c0] 132)
      have ho0 := (hown.alloc (.cells #[.string nm, .int .i64 d, .int .i64 f, .slice A0 ss.length c0] 132))
      generalize (wr.alloc (.cells #[.string nm, .int .i64 d, .int .i64 f, .slice A0 ss.length c0] 132)) = w0 at *
      obtain ⟨hy0, hy1, hy2, hy3, hyl⟩ := blk4 hk0
      have hq2 : wr.heap.size ≤ w0.heap.size := hbW.size
      have hs0B := hs0.more (B' := w0.heap.size) (by omega)
      go_region_held3 (fun W => (∀ p : Addr, p.block < w.heap.size → W.cell? p = w0.cell? p) ∧ (W.cell? ⟨wr.heap.size, 0, none⟩ = some (.string nm) ∧ W.cell? ⟨wr.heap.size, 1, none⟩ = some (.int .i64 d) ∧ W.cell? ⟨wr.heap.size, 2, none⟩ = some (.int .i64 f) ∧ W.cell? ⟨wr.heap.size, 3, none⟩ = some (.slice A0 ss.length c0)) ∧ Below w.heap.size w0 W) (first | exact keep_box bel hkb2 | exact keep_box bel hk0 | exact keep_box bel (blk_drew hk0) | exact keep_box (by first | exact hb1X.mono (by omega) | exact bel) (blk_next hk0 hb1X) | exact keep_box ((hb1X.mono (by omega)).alloc (by omega) _) (blk_alloc (blk_next hk0 hb1X) _)) (first | (go_at_call 79; have hq := (‹_ ∧ _ ∧ Below _ _ _›).2.2; refine (i_copied d f B A0 _ c0 ss _ (hs0.below (hq.mono hB)) (Nat.le_trans (by omega) hq.size)).mono ?_; rintro e w1 ⟨A1, c1, rfl, hor, hb1⟩; (have hb1X : Below w0.heap.size w0 w1 := (by first | exact hb1 | exact (Below.refl _ _).drew.trans hb1 | exact (below_drewN (Below.refl _ _) _).trans hb1)); (have hz1 := hb1X.size); (have horX : w1.ownsRow w0.heap.size 9 1 (.slice A1 ss.length c1) ss.length (ss.map Value.string) := own_base hor hq.size); clear hor; obtain ⟨hv0, hv1, hv2, hv3, hvl⟩ := blk4 (blk_next hk0 hb1X)) | ((have ho1 := (ho0.below hb1X).alloc (.cells #[.string nm, .int .i64 d, .int .i64 f, .slice A1 ss.length c1] 132)); (have hoE := ho1.row); (have hrE : Reads (w1.alloc (.cells #[.string nm, .int .i64 d, .int .i64 f, .slice A1 ss.length c1] 132)) (w1.heap.size + 1) 4 (some ⟨w1.heap.size, 0, none⟩) 1 (itemCells ⟨⟨nm, d, f, ss⟩, A1, c1⟩) := reads_new4 w1 _ _ 1 4 rfl); refine step_append_any _ rfl (.tmp 13) (.tmp 20) _ rfl w.heap.size 132 i0 _ 4 56 Tryz.underlying38 hi0 hz0 hz1i hz2 rfl (by omega) (.slice A9 j c9) j (M.flatMap itemCells) rfl ?_ (w1.heap.size + 1) (some ⟨w1.heap.size, 0, none⟩) 1 1 (itemCells ⟨⟨nm, d, f, ss⟩, A1, c1⟩) rfl ?_ (itemCells_one1 _) ?_ ?_ ?_ ?_; (first | exact hoE | exact ⟨hoE.1, hoE.2⟩); (first | exact hrE | exact ⟨hrE.1, hrE.2⟩); (unfold maxLen; omega); omega; (simp; omega); intro v1 w2 hoa hga0 hata; (have hga : World.grownBy (w1.alloc (.cells #[.string nm, .int .i64 d, .int .i64 f, .slice A1 ss.length c1] 132)) w2 (Value.slice A9 j c9).ownBlock := (by first | exact hga0 | exact ⟨hga0.os, hga0.tape, hga0.output, hga0.size, hga0.block⟩)); (have hbz2 : Below w.heap.size w0 w2 := (((hb1X.mono (by omega)).alloc (by omega) _).trans (grown_below hga (fun k hk => (ho1.row.lt k hk).1) (by simp; omega)))); (have hkb2 : w2.heap[wr.heap.size]? = some (.cells #[.string nm, .int .i64 d, .int .i64 f, .slice A0 ss.length c0] 132 (0, 0)) := (hga.block wr.heap.size (by simp; omega) (by intro he; have := (hown.row.lt _ he.symm).2; omega)).trans (blk_alloc (blk_next hk0 hb1X) _)); obtain ⟨A7, c7, rfl⟩ := own_slice hoa))
      all_goals (
        go_wp2
        go_roundw
        case rel =>
          have hne : ∀ s ∈ M, ∀ k, s.v.ownBlock = some k → (RItem.v ⟨⟨nm, d, f, ss⟩, A1, c1⟩).ownBlock ≠ some k := by
            intro s hs k hk hk2
            have q1 := ((hown.in_ s hs).row.lt k hk).2
            have q2 := (horX.lt k hk2).1
            omega
          have hfin := OwnItems.append (r := ⟨⟨nm, d, f, ss⟩, A1, c1⟩) (ho1.wide (Nat.le_refl _) (by simp; omega)) ((OwnS.of (own_base horX (by omega)) (Nat.le_refl _)).alloc _ |>.wide (Nat.le_refl _) (by simp)) hne hga hoa
          refine ⟨j + 1, A7, c7, M ++ [⟨⟨nm, d, f, ss⟩, A1, c1⟩], by omega, by go_num, rfl, by unfold Hid; rw [List.length_append, HM.out]; rfl, ?_, hfin, ?_⟩
          · unfold Hid; rw [HTK.out, ← HT.out]; simp [plI]
          · exact (hb.trans ((hbW.trans (hb1X.mono hq2)).mono hzr)).trans ((Below.alloc (Below.refl _ _) (by first | exact Nat.le_refl _ | (simp; done) | omega | (simp; omega) | exact (‹_ ∧ _ ∧ Below _ _ _›).2.2.size) _).trans (grown_below hga (fun k hk => by have := (ho1.row.lt k hk).1; omega) (by simp; omega)))
        case measure => simp [intOf]; omega)
    · have hjn : j = n := by omega
      subst hjn
      have hT : plI M = P := by rw [HT.out]; exact List.take_of_length_le (by have := HL.out; omega)
      have HO := hide (And.intro hT hown)
      clear hown hT
      go_wp2
      go_ret
      have hl := HL.out
      obtain ⟨h1, h2⟩ := unhide HO
      subst hl
      exact ⟨_, _, M, rfl, h1, h2, hb⟩
set_option maxHeartbeats 6400000 in
theorem u_l35Copy (P : List PItem) (B : Nat) (A : Option Addr) (n c : Nat) (L : List RItem) (w : World) (hp : plI L = P) (hS : Items w B A n L) (hB : B ≤ w.heap.size) :
    Calls Tryz.prog 143 #[.slice A n c] w (UItems P w) := by
  have hn := hS.nb
  have hl : P.length = n := by rw [← hp, plI_len, hS.len]
  have HL := Lib.hid hl
  have HP := Lib.hid hp
  clear hl hp
  obtain ⟨i0, hi0, hz0, hz1i, hz2⟩ := info_parts info_itemCells
  go_enter Tryz.func143, Tryz.ntmps143
  go_wp2
  go_loopw [3, 4] (fun q i wr => ∃ (j : Nat) (A9 : Option Addr) (c9 : Nat) (M : List RItem), j ≤ n ∧ i = .int .i64 j ∧ q = .slice A9 j c9 ∧ Hid (M.length = j) ∧ Hid (plI M = P.take j) ∧ OwnItems wr w.heap.size wr.heap.size A9 j c9 M ∧ Below w.heap.size w wr) (fun _ i _ => n - (intOf i).toNat)
  case atStart =>
    have h := made_at (e := 132) (size := 4) w w.heap.size w.heap.size rfl (Nat.le_refl _)
    exact ⟨0, _, _, [], Nat.zero_le _, rfl, rfl, rfl, rfl, OwnItems.nil h (fun k hk => (h.lt k hk).2), bel⟩
  case round =>
    obtain ⟨j, A9, c9, M, hj, rfl, rfl, HM, HT, hown, hb⟩ := hrel
    have hzr := hb.size
    by_cases hlt : j < n
    · have hSr := hS.below (hb.mono hB)
      obtain ⟨hk1, ad, rfl, hab, hc0, hc1, hc2, hc3, hss, hnm⟩ := hSr.at_ hlt
      have hx : (plI L)[j]'(by rw [plI_len]; exact hk1) = L[j].x := by simp [plI]
      have HTK : Hid (P.take (j + 1) = P.take j ++ [L[j].x]) := by
        unfold Hid
        have hP := HP.out
        subst hP
        rw [List.take_succ_eq_append_getElem (by rw [plI_len]; exact hk1), hx]
      clear hx
      generalize L[j] = r at *
      obtain ⟨⟨nm, d, f, ss⟩, A0, c0⟩ := r
      simp only at hc0 hc1 hc2 hc3 hss hnm HTK
      have hn0 := hss.nb
      go_wp2
      obtain ⟨w0, hw0⟩ : ∃ W, W = wr := ⟨_, rfl⟩
      have hbW : Below wr.heap.size wr w0 := by rw [hw0]; exact Below.refl _ _
      have hs0 := hss
      have ho0 := hown
      rw [← hw0] at hs0 ho0 hc0 hc1 hc2 hc3 ⊢
      have hq1 : (ad.add (j * 4)).block < w.heap.size := by rw [block_of_add]; omega
      clear hw0
      have hq2 : wr.heap.size ≤ w0.heap.size := hbW.size
      have hs0B := hs0.more (B' := w0.heap.size) (by omega)
      go_region_held3 (fun W => (∀ p : Addr, p.block < w.heap.size → W.cell? p = (w0).cell? p) ∧ (∀ p : Addr, p.block < w.heap.size → W.frozen? p = (w0).frozen? p) ∧ Below (w.heap.size) (w0) W) (exact keep_ofP bel) (first | (go_at_call 77; have hq := (‹_ ∧ _ ∧ Below _ _ _›).2.2; refine (s_l05Copy d f B A0 _ c0 ss _ (hs0.below (hq.mono hB)) (Nat.le_trans (by omega) hq.size)).mono ?_; rintro e w1 ⟨A1, c1, rfl, hor, hb1⟩; (have hb1X : Below w0.heap.size w0 w1 := (by first | exact hb1 | exact (Below.refl _ _).drew.trans hb1 | exact (below_drewN (Below.refl _ _) _).trans hb1)); (have hz1 := hb1X.size); (have horX : w1.ownsRow w0.heap.size 9 1 (.slice A1 ss.length c1) ss.length (ss.map Value.string) := own_base hor hq.size); clear hor) | ((have ho1 := (ho0.below hb1X).alloc (.cells #[.string nm, .int .i64 d, .int .i64 f, .slice A1 ss.length c1] 132)); (have hoE := ho1.row); (have hrE : Reads (w1.alloc (.cells #[.string nm, .int .i64 d, .int .i64 f, .slice A1 ss.length c1] 132)) (w1.heap.size + 1) 4 (some ⟨w1.heap.size, 0, none⟩) 1 (itemCells ⟨⟨nm, d, f, ss⟩, A1, c1⟩) := reads_new4 w1 _ _ 1 4 rfl); refine step_append_any _ rfl (.tmp 12) (.tmp 25) _ rfl w.heap.size 132 i0 _ 4 56 Tryz.underlying38 hi0 hz0 hz1i hz2 rfl (by omega) (.slice A9 j c9) j (M.flatMap itemCells) rfl ?_ (w1.heap.size + 1) (some ⟨w1.heap.size, 0, none⟩) 1 1 (itemCells ⟨⟨nm, d, f, ss⟩, A1, c1⟩) rfl ?_ (itemCells_one1 _) ?_ ?_ ?_ ?_; (first | exact hoE | exact ⟨hoE.1, hoE.2⟩); (first | exact hrE | exact ⟨hrE.1, hrE.2⟩); (unfold maxLen; omega); omega; (simp; omega); intro v1 w2 hoa hga0 hata; (have hga : World.grownBy (w1.alloc (.cells #[.string nm, .int .i64 d, .int .i64 f, .slice A1 ss.length c1] 132)) w2 (Value.slice A9 j c9).ownBlock := (by first | exact hga0 | exact ⟨hga0.os, hga0.tape, hga0.output, hga0.size, hga0.block⟩)); (have hbz2 : Below w.heap.size w0 w2 := (((hb1X.mono (by omega)).alloc (by omega) _).trans (grown_below hga (fun k hk => (ho1.row.lt k hk).1) (by simp; omega)))); obtain ⟨A7, c7, rfl⟩ := own_slice hoa))
      all_goals (
        go_wp2
        go_roundw
        case rel =>
          have hne : ∀ s ∈ M, ∀ k, s.v.ownBlock = some k → (RItem.v ⟨⟨nm, d, f, ss⟩, A1, c1⟩).ownBlock ≠ some k := by
            intro s hs k hk hk2
            have q1 := ((hown.in_ s hs).row.lt k hk).2
            have q2 := (horX.lt k hk2).1
            omega
          have hfin := OwnItems.append (r := ⟨⟨nm, d, f, ss⟩, A1, c1⟩) (ho1.wide (Nat.le_refl _) (by simp; omega)) ((OwnS.of (own_base horX (by omega)) (Nat.le_refl _)).alloc _ |>.wide (Nat.le_refl _) (by simp)) hne hga hoa
          refine ⟨j + 1, A7, c7, M ++ [⟨⟨nm, d, f, ss⟩, A1, c1⟩], by omega, by go_num, rfl, by unfold Hid; rw [List.length_append, HM.out]; rfl, ?_, hfin, ?_⟩
          · unfold Hid; rw [HTK.out, ← HT.out]; simp [plI]
          · exact (hb.trans ((hbW.trans (hb1X.mono hq2)).mono hzr)).trans ((Below.alloc (Below.refl _ _) (by first | exact Nat.le_refl _ | (simp; done) | omega | (simp; omega) | exact (‹_ ∧ _ ∧ Below _ _ _›).2.2.size) _).trans (grown_below hga (fun k hk => by have := (ho1.row.lt k hk).1; omega) (by simp; omega)))
        case measure => simp [intOf]; omega)
    · have hjn : j = n := by omega
      subst hjn
      have hT : plI M = P := by rw [HT.out]; exact List.take_of_length_le (by have := HL.out; omega)
      have HO := hide (And.intro hT hown)
      clear hown hT
      go_wp2
      go_ret
      have hl := HL.out
      obtain ⟨h1, h2⟩ := unhide HO
      subst hl
      exact ⟨_, _, M, rfl, h1, h2, hb⟩
end Go.Proofs.YtdddglihomchfaaGreat
