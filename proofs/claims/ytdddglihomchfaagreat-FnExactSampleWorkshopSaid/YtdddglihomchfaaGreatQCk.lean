/- Contracts of the program's and the reference's functions (Item5). -/
import Derived.Test.YtdddglihomchfaaGreatRows
import Derived.Test.YtdddglihomchfaaGreatQCj
import Derived.Test.YtdddglihomchfaaGreatQCd
namespace Go.Proofs.YtdddglihomchfaaGreat
open Go.ChangeShapes Go.WideShapes Go.ChangeAt Go.RowKit
set_option linter.unusedVariables false
set_option maxRecDepth 10000
set_option maxHeartbeats 6400000 in
theorem s_CatalogOk (P : List PItem) (B : Nat) (A : Option Addr) (n c : Nat) (L : List RItem) (w : World) (hp : plI L = P) (hS : Items w B A n L) (hB : B ≤ w.heap.size) :
    Calls Tryz.prog 63 #[.slice A n c] w fun e w' => e = .returned (.bool (catOk P)) ∧ Below w.heap.size w w' := by
  have hn := hS.nb
  have hl : P.length = n := by rw [← hp, plI_len, hS.len]
  have HL := Lib.hid hl
  have HP := Lib.hid hp
  clear hl hp
  go_enter Tryz.func63, Tryz.ntmps63
  go_wp2
  go_loopw [3] (fun i wr => ∃ j : Nat, j ≤ n ∧ i = .int .i64 j ∧ Hid ((List.range j).all (itGood P) = true) ∧ Below w.heap.size w wr) (fun i _ => n - (intOf i).toNat)
  case atStart => exact ⟨0, Nat.zero_le _, rfl, by unfold Hid; simp, Below.refl _ _⟩
  case round =>
    obtain ⟨j, hj, rfl, HA, hb⟩ := hrel
    have hzr := hb.size
    by_cases hlt : j < n
    · have hSr := hS.below (hb.mono hB)
      obtain ⟨hk1, ad, rfl, hab, hc0, hc1, hc2, hc3, hss, hnm⟩ := hSr.at_ hlt
      have hx : P[j]? = some L[j].x := by rw [← HP.out]; exact plI_at hk1
      have HX := Lib.hid hx
      have hkP : j < P.length := by have := HL.out; omega
      have HKP := hide hkP
      clear hx hkP
      obtain ⟨nm, hnme⟩ : ∃ a, a = L[j].x.nm := ⟨_, rfl⟩
      obtain ⟨d, hde⟩ : ∃ a, a = L[j].x.d := ⟨_, rfl⟩
      obtain ⟨f, hfe⟩ : ∃ a, a = L[j].x.f := ⟨_, rfl⟩
      obtain ⟨ss, hse⟩ : ∃ a, a = L[j].x.ss := ⟨_, rfl⟩
      rw [← hnme] at hc0 hnm; rw [← hde] at hc1; rw [← hfe] at hc2; rw [← hse] at hc3 hss
      have hxx : L[j].x = ⟨nm, d, f, ss⟩ := by rw [hnme, hde, hfe, hse]
      rw [hxx] at HX
      generalize L[j].A = A0 at *
      generalize L[j].c = c0 at *
      clear hnme hde hfe hse hxx hk1
      cases hnok : nameOk nm
      · have HF := Lib.hid (catOk_no (unhide HKP) (by unfold itGood; rw [HX.out]; simp [hnok]))
        have hqn := fun W => s_NameOk nm W hnm
        simp only [hnok] at hqn
        have HQN := hide hqn
        clear hqn
        go_wp2
        have hs0 := hss
        obtain ⟨w0, hw0⟩ : ∃ W, W = wr := ⟨_, rfl⟩
        have hbW : Below wr.heap.size wr w0 := by rw [hw0]; exact Below.refl _ _
        rw [← hw0] at hs0 hc0 hc1 hc2 hc3 ⊢
        have hq2 : wr.heap.size ≤ w0.heap.size := hbW.size
        have hq1 : (ad.add (j * 4)).block < w0.heap.size := by rw [block_of_add]; omega
        clear hw0
        have hs0B := hs0.more (B' := w0.heap.size) (by omega)
        refine wp_region_noPanic ?_
        refine wp_region_held_drew (S := (fun W => (∀ p : Addr, p.block < w0.heap.size → W.cell? p = w0.cell? p) ∧ (∀ p : Addr, p.block < w0.heap.size → W.frozen? p = w0.frozen? p) ∧ Below w0.heap.size w0 W)) (by kernel_rfl) ?_ (fun hHeld => ?_)
        · exact (keep_ofP bel)
        refine wpAnyH_go (i := 0) (v := ?v10_0) rfl (by kernel_rfl) (by kernel_rfl) (by kernel_rfl) (fun _ _ _ h => h) (by rfl) ?hy10_0 (by assumption) ?rest10_0
        case hy10_0 => (intro w_ hSw; (try dsimp only at hSw); go_simp; (try (with_reducible rfl)))
        (try simp only [List.getElem_toArray, List.getElem_cons_zero, Act.put, List.setIfInBounds_toArray, List.set_cons_zero, List.set_cons_succ])
        refine wpAnyH_go (i := 1) (v := ?v10_1) rfl (by kernel_rfl) (by kernel_rfl) (by kernel_rfl) (fun _ _ _ h => h) (by rfl) ?hy10_1 (by assumption) ?rest10_1
        case hy10_1 => (intro w_ hSw; (try dsimp only at hSw); go_simp; (try (with_reducible rfl)))
        (try simp only [List.getElem_toArray, List.getElem_cons_zero, List.getElem_cons_succ, Act.put, List.setIfInBounds_toArray, List.set_cons_zero, List.set_cons_succ])
        refine wpAnyH_go (i := 2) (v := ?v10_2) rfl (by kernel_rfl) (by kernel_rfl) (by kernel_rfl) (fun _ _ _ h => h) (by rfl) ?hy10_2 (by assumption) ?rest10_2
        case hy10_2 => (intro w_ hSw; (try dsimp only at hSw); go_simp; (try (with_reducible rfl)))
        (try simp only [List.getElem_toArray, List.getElem_cons_zero, List.getElem_cons_succ, Act.put, List.setIfInBounds_toArray, List.set_cons_zero, List.set_cons_succ])
        refine wpAnyH_go (i := 3) (v := ?v10_3) rfl (by kernel_rfl) (by kernel_rfl) (by kernel_rfl) (fun _ _ _ h => h) (by rfl) ?hy10_3 (by assumption) ?rest10_3
        case hy10_3 => (intro w_ hSw; (try dsimp only at hSw); go_simp; (try (with_reducible rfl)))
        (try simp only [List.getElem_toArray, List.getElem_cons_zero, List.getElem_cons_succ, Act.put, List.setIfInBounds_toArray, List.set_cons_zero, List.set_cons_succ])
        refine wpAnyH_go (i := 4) (v := ?v10_4) rfl (by kernel_rfl) (by kernel_rfl) (by kernel_rfl) (fun _ _ _ h => h) (by rfl) ?hy10_4 (by assumption) ?rest10_4
        case hy10_4 => (intro w_ hSw; (try dsimp only at hSw); go_simp; (try (with_reducible rfl)))
        (try simp only [List.getElem_toArray, List.getElem_cons_zero, List.getElem_cons_succ, Act.put, List.setIfInBounds_toArray, List.set_cons_zero, List.set_cons_succ])
        refine wpAnyH_ready (rs := [5]) (by kernel_rfl) (by simp) ?_
        refine AllReadyH.cons rfl (fun K hK => ?_) AllReadyH.nil
        go_simp
        (refine (unhide HQN _).mono ?_; rintro e w' ⟨rfl, rfl⟩)
        (try (go_wp2_with fail))
        refine hK.out _ _ ?_ (fun hHeld => ?_)
        · exact (keep_ofP bel)
        clear hK K
        (try simp only [List.getElem_toArray, List.getElem_cons_zero, List.getElem_cons_succ, Act.put, List.setIfInBounds_toArray, List.set_cons_zero, List.set_cons_succ])
        refine wpAnyH_go (i := 6) (v := ?v10_6) rfl (by kernel_rfl) (by kernel_rfl) (by kernel_rfl) (fun _ _ _ h => h) (by rfl) ?hy10_6 (by assumption) ?rest10_6
        case hy10_6 => (intro w_ hSw; (try dsimp only at hSw); go_simp; (try (with_reducible rfl)))
        (try simp only [List.getElem_toArray, List.getElem_cons_zero, List.getElem_cons_succ, Act.put, List.setIfInBounds_toArray, List.set_cons_zero, List.set_cons_succ])
        refine wpAnyH_go (i := 7) (v := ?v10_7) rfl (by kernel_rfl) (by kernel_rfl) (by kernel_rfl) (fun _ _ _ h => h) (by rfl) ?hy10_7 (by assumption) ?rest10_7
        case hy10_7 => (intro w_ hSw; (try dsimp only at hSw); go_simp; (try (with_reducible rfl)))
        (try simp only [List.getElem_toArray, List.getElem_cons_zero, List.getElem_cons_succ, Act.put, List.setIfInBounds_toArray, List.set_cons_zero, List.set_cons_succ])
        refine wpAnyH_skip (i := 8) rfl (by kernel_rfl) (by kernel_rfl) (by kernel_rfl) (fun _ _ _ h => h) (by rfl) (by assumption) ?_
        (try simp only [List.getElem_toArray, List.getElem_cons_zero, List.getElem_cons_succ, Act.put, List.setIfInBounds_toArray, List.set_cons_zero, List.set_cons_succ])
        refine wpAnyH_skip (i := 9) rfl (by kernel_rfl) (by kernel_rfl) (by kernel_rfl) (fun _ _ _ h => h) (by rfl) (by assumption) ?_
        (try simp only [List.getElem_toArray, List.getElem_cons_zero, List.getElem_cons_succ, Act.put, List.setIfInBounds_toArray, List.set_cons_zero, List.set_cons_succ])
        refine wpAnyH_skip (i := 10) rfl (by kernel_rfl) (by kernel_rfl) (by kernel_rfl) (fun _ _ _ h => h) (by rfl) (by assumption) ?_
        (try simp only [List.getElem_toArray, List.getElem_cons_zero, List.getElem_cons_succ, Act.put, List.setIfInBounds_toArray, List.set_cons_zero, List.set_cons_succ])
        refine wpAnyH_skip (i := 11) rfl (by kernel_rfl) (by kernel_rfl) (by kernel_rfl) (fun _ _ _ h => h) (by rfl) (by assumption) ?_
        (try simp only [List.getElem_toArray, List.getElem_cons_zero, List.getElem_cons_succ, Act.put, List.setIfInBounds_toArray, List.set_cons_zero, List.set_cons_succ])
        refine wpAnyH_skip (i := 12) rfl (by kernel_rfl) (by kernel_rfl) (by kernel_rfl) (fun _ _ _ h => h) (by rfl) (by assumption) ?_
        (try simp only [List.getElem_toArray, List.getElem_cons_zero, List.getElem_cons_succ, Act.put, List.setIfInBounds_toArray, List.set_cons_zero, List.set_cons_succ])
        refine wpAnyH_skip (i := 13) rfl (by kernel_rfl) (by kernel_rfl) (by kernel_rfl) (fun _ _ _ h => h) (by rfl) (by assumption) ?_
        (try simp only [List.getElem_toArray, List.getElem_cons_zero, List.getElem_cons_succ, Act.put, List.setIfInBounds_toArray, List.set_cons_zero, List.set_cons_succ])
        refine wpAnyH_skip (i := 14) rfl (by kernel_rfl) (by kernel_rfl) (by kernel_rfl) (fun _ _ _ h => h) (by rfl) (by assumption) ?_
        (try simp only [List.getElem_toArray, List.getElem_cons_zero, List.getElem_cons_succ, Act.put, List.setIfInBounds_toArray, List.set_cons_zero, List.set_cons_succ])
        refine wpAnyH_go (i := 15) (v := ?v10_15) rfl (by kernel_rfl) (by kernel_rfl) (by kernel_rfl) (fun _ _ _ h => h) (by rfl) ?hy10_15 (by assumption) ?rest10_15
        case hy10_15 => (intro w_ hSw; (try dsimp only at hSw); go_simp; (try (with_reducible rfl)))
        (try simp only [List.getElem_toArray, List.getElem_cons_zero, List.getElem_cons_succ, Act.put, List.setIfInBounds_toArray, List.set_cons_zero, List.set_cons_succ])
        refine wpAnyH_go (i := 16) (v := ?v10_16) rfl (by kernel_rfl) (by kernel_rfl) (by kernel_rfl) (fun _ _ _ h => h) (by rfl) ?hy10_16 (by assumption) ?rest10_16
        case hy10_16 => (intro w_ hSw; (try dsimp only at hSw); go_simp; (try (with_reducible rfl)))
        (try simp only [List.getElem_toArray, List.getElem_cons_zero, List.getElem_cons_succ, Act.put, List.setIfInBounds_toArray, List.set_cons_zero, List.set_cons_succ])
        refine wpAnyH_skip (i := 17) rfl (by kernel_rfl) (by kernel_rfl) (by kernel_rfl) (fun _ _ _ h => h) (by rfl) (by assumption) ?_
        (try simp only [List.getElem_toArray, List.getElem_cons_zero, List.getElem_cons_succ, Act.put, List.setIfInBounds_toArray, List.set_cons_zero, List.set_cons_succ])
        refine wpAnyH_skip (i := 18) rfl (by kernel_rfl) (by kernel_rfl) (by kernel_rfl) (fun _ _ _ h => h) (by rfl) (by assumption) ?_
        (try simp only [List.getElem_toArray, List.getElem_cons_zero, List.getElem_cons_succ, Act.put, List.setIfInBounds_toArray, List.set_cons_zero, List.set_cons_succ])
        refine wpAnyH_skip (i := 19) rfl (by kernel_rfl) (by kernel_rfl) (by kernel_rfl) (fun _ _ _ h => h) (by rfl) (by assumption) ?_
        (try simp only [List.getElem_toArray, List.getElem_cons_zero, List.getElem_cons_succ, Act.put, List.setIfInBounds_toArray, List.set_cons_zero, List.set_cons_succ])
        refine wpAnyH_skip (i := 20) rfl (by kernel_rfl) (by kernel_rfl) (by kernel_rfl) (fun _ _ _ h => h) (by rfl) (by assumption) ?_
        (try simp only [List.getElem_toArray, List.getElem_cons_zero, List.getElem_cons_succ, Act.put, List.setIfInBounds_toArray, List.set_cons_zero, List.set_cons_succ])
        refine wpAnyH_skip (i := 21) rfl (by kernel_rfl) (by kernel_rfl) (by kernel_rfl) (fun _ _ _ h => h) (by rfl) (by assumption) ?_
        (try simp only [List.getElem_toArray, List.getElem_cons_zero, List.getElem_cons_succ, Act.put, List.setIfInBounds_toArray, List.set_cons_zero, List.set_cons_succ])
        refine wpAnyH_skip (i := 22) rfl (by kernel_rfl) (by kernel_rfl) (by kernel_rfl) (fun _ _ _ h => h) (by rfl) (by assumption) ?_
        (try simp only [List.getElem_toArray, List.getElem_cons_zero, List.getElem_cons_succ, Act.put, List.setIfInBounds_toArray, List.set_cons_zero, List.set_cons_succ])
        refine wpAnyH_skip (i := 23) rfl (by kernel_rfl) (by kernel_rfl) (by kernel_rfl) (fun _ _ _ h => h) (by rfl) (by assumption) ?_
        (try simp only [List.getElem_toArray, List.getElem_cons_zero, List.getElem_cons_succ, Act.put, List.setIfInBounds_toArray, List.set_cons_zero, List.set_cons_succ])
        refine wpAnyH_skip (i := 24) rfl (by kernel_rfl) (by kernel_rfl) (by kernel_rfl) (fun _ _ _ h => h) (by rfl) (by assumption) ?_
        (try simp only [List.getElem_toArray, List.getElem_cons_zero, List.getElem_cons_succ, Act.put, List.setIfInBounds_toArray, List.set_cons_zero, List.set_cons_succ])
        refine wpAnyH_skip (i := 25) rfl (by kernel_rfl) (by kernel_rfl) (by kernel_rfl) (fun _ _ _ h => h) (by rfl) (by assumption) ?_
        (try simp only [List.getElem_toArray, List.getElem_cons_zero, List.getElem_cons_succ, Act.put, List.setIfInBounds_toArray, List.set_cons_zero, List.set_cons_succ])
        refine wpAnyH_skip (i := 26) rfl (by kernel_rfl) (by kernel_rfl) (by kernel_rfl) (fun _ _ _ h => h) (by rfl) (by assumption) ?_
        (try simp only [List.getElem_toArray, List.getElem_cons_zero, List.getElem_cons_succ, Act.put, List.setIfInBounds_toArray, List.set_cons_zero, List.set_cons_succ])
        refine wpAnyH_skip (i := 27) rfl (by kernel_rfl) (by kernel_rfl) (by kernel_rfl) (fun _ _ _ h => h) (by rfl) (by assumption) ?_
        (try simp only [List.getElem_toArray, List.getElem_cons_zero, List.getElem_cons_succ, Act.put, List.setIfInBounds_toArray, List.set_cons_zero, List.set_cons_succ])
        refine wpAnyH_skip (i := 28) rfl (by kernel_rfl) (by kernel_rfl) (by kernel_rfl) (fun _ _ _ h => h) (by rfl) (by assumption) ?_
        (try simp only [List.getElem_toArray, List.getElem_cons_zero, List.getElem_cons_succ, Act.put, List.setIfInBounds_toArray, List.set_cons_zero, List.set_cons_succ])
        refine wpAnyH_skip (i := 29) rfl (by kernel_rfl) (by kernel_rfl) (by kernel_rfl) (fun _ _ _ h => h) (by rfl) (by assumption) ?_
        (try simp only [List.getElem_toArray, List.getElem_cons_zero, List.getElem_cons_succ, Act.put, List.setIfInBounds_toArray, List.set_cons_zero, List.set_cons_succ])
        refine wpAnyH_skip (i := 30) rfl (by kernel_rfl) (by kernel_rfl) (by kernel_rfl) (fun _ _ _ h => h) (by rfl) (by assumption) ?_
        (try simp only [List.getElem_toArray, List.getElem_cons_zero, List.getElem_cons_succ, Act.put, List.setIfInBounds_toArray, List.set_cons_zero, List.set_cons_succ])
        refine wpAnyH_skip (i := 31) rfl (by kernel_rfl) (by kernel_rfl) (by kernel_rfl) (fun _ _ _ h => h) (by rfl) (by assumption) ?_
        (try simp only [List.getElem_toArray, List.getElem_cons_zero, List.getElem_cons_succ, Act.put, List.setIfInBounds_toArray, List.set_cons_zero, List.set_cons_succ])
        refine wpAnyH_skip (i := 32) rfl (by kernel_rfl) (by kernel_rfl) (by kernel_rfl) (fun _ _ _ h => h) (by rfl) (by assumption) ?_
        (try simp only [List.getElem_toArray, List.getElem_cons_zero, List.getElem_cons_succ, Act.put, List.setIfInBounds_toArray, List.set_cons_zero, List.set_cons_succ])
        refine wpAnyH_go (i := 33) (v := ?v10_33) rfl (by kernel_rfl) (by kernel_rfl) (by kernel_rfl) (fun _ _ _ h => h) (by rfl) ?hy10_33 (by assumption) ?rest10_33
        case hy10_33 => (intro w_ hSw; (try dsimp only at hSw); go_simp; (try (with_reducible rfl)))
        (try simp only [List.getElem_toArray, List.getElem_cons_zero, List.getElem_cons_succ, Act.put, List.setIfInBounds_toArray, List.set_cons_zero, List.set_cons_succ])
        refine wpAnyH_done (by kernel_rfl) ?_ _
        refine NoPanic.normal ?_
        all_goals (
          go_wp2
          go_ret
          exact ⟨ret_bool HF.out.symm, hb.trans ((hbW.trans (Below.mono (by first | exact Below.refl _ _ | exact (Below.refl _ _).drew | exact below_drewN (Below.refl _ _) _ | exact bel) hq2)).mono hzr)⟩)
      · cases hck : cardOk d f ss
        · have HF := Lib.hid (catOk_no (unhide HKP) (by unfold itGood; rw [HX.out]; simp [hck]))
          have hqn := fun W => s_NameOk nm W hnm
          simp only [hnok] at hqn
          have HQN := hide hqn
          clear hqn
          go_wp2
          have hs0 := hss
          obtain ⟨w0, hw0⟩ : ∃ W, W = wr := ⟨_, rfl⟩
          have hbW : Below wr.heap.size wr w0 := by rw [hw0]; exact Below.refl _ _
          rw [← hw0] at hs0 hc0 hc1 hc2 hc3 ⊢
          have hq2 : wr.heap.size ≤ w0.heap.size := hbW.size
          have hq1 : (ad.add (j * 4)).block < w0.heap.size := by rw [block_of_add]; omega
          clear hw0
          have hs0B := hs0.more (B' := w0.heap.size) (by omega)
          refine wp_region_noPanic ?_
          refine wp_region_held_drew (S := (fun W => (∀ p : Addr, p.block < w0.heap.size → W.cell? p = w0.cell? p) ∧ (∀ p : Addr, p.block < w0.heap.size → W.frozen? p = w0.frozen? p) ∧ Below w0.heap.size w0 W)) (by kernel_rfl) ?_ (fun hHeld => ?_)
          · exact (keep_ofP bel)
          refine wpAnyH_go (i := 0) (v := ?v11_0) rfl (by kernel_rfl) (by kernel_rfl) (by kernel_rfl) (fun _ _ _ h => h) (by rfl) ?hy11_0 (by assumption) ?rest11_0
          case hy11_0 => (intro w_ hSw; (try dsimp only at hSw); go_simp; (try (with_reducible rfl)))
          (try simp only [List.getElem_toArray, List.getElem_cons_zero, Act.put, List.setIfInBounds_toArray, List.set_cons_zero, List.set_cons_succ])
          refine wpAnyH_go (i := 1) (v := ?v11_1) rfl (by kernel_rfl) (by kernel_rfl) (by kernel_rfl) (fun _ _ _ h => h) (by rfl) ?hy11_1 (by assumption) ?rest11_1
          case hy11_1 => (intro w_ hSw; (try dsimp only at hSw); go_simp; (try (with_reducible rfl)))
          (try simp only [List.getElem_toArray, List.getElem_cons_zero, List.getElem_cons_succ, Act.put, List.setIfInBounds_toArray, List.set_cons_zero, List.set_cons_succ])
          refine wpAnyH_go (i := 2) (v := ?v11_2) rfl (by kernel_rfl) (by kernel_rfl) (by kernel_rfl) (fun _ _ _ h => h) (by rfl) ?hy11_2 (by assumption) ?rest11_2
          case hy11_2 => (intro w_ hSw; (try dsimp only at hSw); go_simp; (try (with_reducible rfl)))
          (try simp only [List.getElem_toArray, List.getElem_cons_zero, List.getElem_cons_succ, Act.put, List.setIfInBounds_toArray, List.set_cons_zero, List.set_cons_succ])
          refine wpAnyH_go (i := 3) (v := ?v11_3) rfl (by kernel_rfl) (by kernel_rfl) (by kernel_rfl) (fun _ _ _ h => h) (by rfl) ?hy11_3 (by assumption) ?rest11_3
          case hy11_3 => (intro w_ hSw; (try dsimp only at hSw); go_simp; (try (with_reducible rfl)))
          (try simp only [List.getElem_toArray, List.getElem_cons_zero, List.getElem_cons_succ, Act.put, List.setIfInBounds_toArray, List.set_cons_zero, List.set_cons_succ])
          refine wpAnyH_go (i := 4) (v := ?v11_4) rfl (by kernel_rfl) (by kernel_rfl) (by kernel_rfl) (fun _ _ _ h => h) (by rfl) ?hy11_4 (by assumption) ?rest11_4
          case hy11_4 => (intro w_ hSw; (try dsimp only at hSw); go_simp; (try (with_reducible rfl)))
          (try simp only [List.getElem_toArray, List.getElem_cons_zero, List.getElem_cons_succ, Act.put, List.setIfInBounds_toArray, List.set_cons_zero, List.set_cons_succ])
          refine wpAnyH_ready (rs := [5]) (by kernel_rfl) (by simp) ?_
          refine AllReadyH.cons rfl (fun K hK => ?_) AllReadyH.nil
          go_simp
          (refine (unhide HQN _).mono ?_; rintro e w' ⟨rfl, rfl⟩)
          (try (go_wp2_with fail))
          refine hK.out _ _ ?_ (fun hHeld => ?_)
          · exact (keep_ofP bel)
          clear hK K
          (try simp only [List.getElem_toArray, List.getElem_cons_zero, List.getElem_cons_succ, Act.put, List.setIfInBounds_toArray, List.set_cons_zero, List.set_cons_succ])
          refine wpAnyH_go (i := 6) (v := ?v11_6) rfl (by kernel_rfl) (by kernel_rfl) (by kernel_rfl) (fun _ _ _ h => h) (by rfl) ?hy11_6 (by assumption) ?rest11_6
          case hy11_6 => (intro w_ hSw; (try dsimp only at hSw); go_simp; (try (with_reducible rfl)))
          (try simp only [List.getElem_toArray, List.getElem_cons_zero, List.getElem_cons_succ, Act.put, List.setIfInBounds_toArray, List.set_cons_zero, List.set_cons_succ])
          refine wpAnyH_go (i := 7) (v := ?v11_7) rfl (by kernel_rfl) (by kernel_rfl) (by kernel_rfl) (fun _ _ _ h => h) (by rfl) ?hy11_7 (by assumption) ?rest11_7
          case hy11_7 => (intro w_ hSw; (try dsimp only at hSw); go_simp; (try (with_reducible rfl)))
          (try simp only [List.getElem_toArray, List.getElem_cons_zero, List.getElem_cons_succ, Act.put, List.setIfInBounds_toArray, List.set_cons_zero, List.set_cons_succ])
          refine wpAnyH_go (i := 8) (v := ?v11_8) rfl (by kernel_rfl) (by kernel_rfl) (by kernel_rfl) (fun _ _ _ h => h) (by rfl) ?hy11_8 (by assumption) ?rest11_8
          case hy11_8 => (intro w_ hSw; (try dsimp only at hSw); go_simp; (try (with_reducible rfl)))
          (try simp only [List.getElem_toArray, List.getElem_cons_zero, List.getElem_cons_succ, Act.put, List.setIfInBounds_toArray, List.set_cons_zero, List.set_cons_succ])
          refine wpAnyH_go (i := 9) (v := ?v11_9) rfl (by kernel_rfl) (by kernel_rfl) (by kernel_rfl) (fun _ _ _ h => h) (by rfl) ?hy11_9 (by assumption) ?rest11_9
          case hy11_9 => (intro w_ hSw; (try dsimp only at hSw); go_simp; (try (with_reducible rfl)))
          (try simp only [List.getElem_toArray, List.getElem_cons_zero, List.getElem_cons_succ, Act.put, List.setIfInBounds_toArray, List.set_cons_zero, List.set_cons_succ])
          refine wpAnyH_go (i := 10) (v := ?v11_10) rfl (by kernel_rfl) (by kernel_rfl) (by kernel_rfl) (fun _ _ _ h => h) (by rfl) ?hy11_10 (by assumption) ?rest11_10
          case hy11_10 => (intro w_ hSw; (try dsimp only at hSw); go_simp; (try (with_reducible rfl)))
          (try simp only [List.getElem_toArray, List.getElem_cons_zero, List.getElem_cons_succ, Act.put, List.setIfInBounds_toArray, List.set_cons_zero, List.set_cons_succ])
          refine wpAnyH_go (i := 11) (v := ?v11_11) rfl (by kernel_rfl) (by kernel_rfl) (by kernel_rfl) (fun _ _ _ h => h) (by rfl) ?hy11_11 (by assumption) ?rest11_11
          case hy11_11 => (intro w_ hSw; (try dsimp only at hSw); go_simp; (try (with_reducible rfl)))
          (try simp only [List.getElem_toArray, List.getElem_cons_zero, List.getElem_cons_succ, Act.put, List.setIfInBounds_toArray, List.set_cons_zero, List.set_cons_succ])
          refine wpAnyH_go (i := 12) (v := ?v11_12) rfl (by kernel_rfl) (by kernel_rfl) (by kernel_rfl) (fun _ _ _ h => h) (by rfl) ?hy11_12 (by assumption) ?rest11_12
          case hy11_12 => (intro w_ hSw; (try dsimp only at hSw); go_simp; (try (with_reducible rfl)))
          (try simp only [List.getElem_toArray, List.getElem_cons_zero, List.getElem_cons_succ, Act.put, List.setIfInBounds_toArray, List.set_cons_zero, List.set_cons_succ])
          refine wpAnyH_ready (rs := [13]) (by kernel_rfl) (by simp) ?_
          refine AllReadyH.cons rfl (fun K hK => ?_) AllReadyH.nil
          go_simp
          (have hq := (‹_ ∧ _ ∧ Below _ _ _›).2.2; refine (s_CardOk d f _ _ _ ss _ ?_).mono ?_; exact (hs0B.below hq).more hq.size; rw [hck]; rintro e w2 ⟨rfl, hb2⟩)
          (try (go_wp2_with fail))
          refine hK.out _ _ ?_ (fun hHeld => ?_)
          · exact (keep_ofP bel)
          clear hK K
          (try simp only [List.getElem_toArray, List.getElem_cons_zero, List.getElem_cons_succ, Act.put, List.setIfInBounds_toArray, List.set_cons_zero, List.set_cons_succ])
          refine wpAnyH_go (i := 14) (v := ?v11_14) rfl (by kernel_rfl) (by kernel_rfl) (by kernel_rfl) (fun _ _ _ h => h) (by rfl) ?hy11_14 (by assumption) ?rest11_14
          case hy11_14 => (intro w_ hSw; (try dsimp only at hSw); go_simp; (try (with_reducible rfl)))
          (try simp only [List.getElem_toArray, List.getElem_cons_zero, List.getElem_cons_succ, Act.put, List.setIfInBounds_toArray, List.set_cons_zero, List.set_cons_succ])
          refine wpAnyH_go (i := 15) (v := ?v11_15) rfl (by kernel_rfl) (by kernel_rfl) (by kernel_rfl) (fun _ _ _ h => h) (by rfl) ?hy11_15 (by assumption) ?rest11_15
          case hy11_15 => (intro w_ hSw; (try dsimp only at hSw); go_simp; (try (with_reducible rfl)))
          (try simp only [List.getElem_toArray, List.getElem_cons_zero, List.getElem_cons_succ, Act.put, List.setIfInBounds_toArray, List.set_cons_zero, List.set_cons_succ])
          refine wpAnyH_go (i := 16) (v := ?v11_16) rfl (by kernel_rfl) (by kernel_rfl) (by kernel_rfl) (fun _ _ _ h => h) (by rfl) ?hy11_16 (by assumption) ?rest11_16
          case hy11_16 => (intro w_ hSw; (try dsimp only at hSw); go_simp; (try (with_reducible rfl)))
          (try simp only [List.getElem_toArray, List.getElem_cons_zero, List.getElem_cons_succ, Act.put, List.setIfInBounds_toArray, List.set_cons_zero, List.set_cons_succ])
          refine wpAnyH_skip (i := 17) rfl (by kernel_rfl) (by kernel_rfl) (by kernel_rfl) (fun _ _ _ h => h) (by rfl) (by assumption) ?_
          (try simp only [List.getElem_toArray, List.getElem_cons_zero, List.getElem_cons_succ, Act.put, List.setIfInBounds_toArray, List.set_cons_zero, List.set_cons_succ])
          refine wpAnyH_skip (i := 18) rfl (by kernel_rfl) (by kernel_rfl) (by kernel_rfl) (fun _ _ _ h => h) (by rfl) (by assumption) ?_
          (try simp only [List.getElem_toArray, List.getElem_cons_zero, List.getElem_cons_succ, Act.put, List.setIfInBounds_toArray, List.set_cons_zero, List.set_cons_succ])
          refine wpAnyH_skip (i := 19) rfl (by kernel_rfl) (by kernel_rfl) (by kernel_rfl) (fun _ _ _ h => h) (by rfl) (by assumption) ?_
          (try simp only [List.getElem_toArray, List.getElem_cons_zero, List.getElem_cons_succ, Act.put, List.setIfInBounds_toArray, List.set_cons_zero, List.set_cons_succ])
          refine wpAnyH_skip (i := 20) rfl (by kernel_rfl) (by kernel_rfl) (by kernel_rfl) (fun _ _ _ h => h) (by rfl) (by assumption) ?_
          (try simp only [List.getElem_toArray, List.getElem_cons_zero, List.getElem_cons_succ, Act.put, List.setIfInBounds_toArray, List.set_cons_zero, List.set_cons_succ])
          refine wpAnyH_skip (i := 21) rfl (by kernel_rfl) (by kernel_rfl) (by kernel_rfl) (fun _ _ _ h => h) (by rfl) (by assumption) ?_
          (try simp only [List.getElem_toArray, List.getElem_cons_zero, List.getElem_cons_succ, Act.put, List.setIfInBounds_toArray, List.set_cons_zero, List.set_cons_succ])
          refine wpAnyH_skip (i := 22) rfl (by kernel_rfl) (by kernel_rfl) (by kernel_rfl) (fun _ _ _ h => h) (by rfl) (by assumption) ?_
          (try simp only [List.getElem_toArray, List.getElem_cons_zero, List.getElem_cons_succ, Act.put, List.setIfInBounds_toArray, List.set_cons_zero, List.set_cons_succ])
          refine wpAnyH_skip (i := 23) rfl (by kernel_rfl) (by kernel_rfl) (by kernel_rfl) (fun _ _ _ h => h) (by rfl) (by assumption) ?_
          (try simp only [List.getElem_toArray, List.getElem_cons_zero, List.getElem_cons_succ, Act.put, List.setIfInBounds_toArray, List.set_cons_zero, List.set_cons_succ])
          refine wpAnyH_skip (i := 24) rfl (by kernel_rfl) (by kernel_rfl) (by kernel_rfl) (fun _ _ _ h => h) (by rfl) (by assumption) ?_
          (try simp only [List.getElem_toArray, List.getElem_cons_zero, List.getElem_cons_succ, Act.put, List.setIfInBounds_toArray, List.set_cons_zero, List.set_cons_succ])
          refine wpAnyH_skip (i := 25) rfl (by kernel_rfl) (by kernel_rfl) (by kernel_rfl) (fun _ _ _ h => h) (by rfl) (by assumption) ?_
          (try simp only [List.getElem_toArray, List.getElem_cons_zero, List.getElem_cons_succ, Act.put, List.setIfInBounds_toArray, List.set_cons_zero, List.set_cons_succ])
          refine wpAnyH_skip (i := 26) rfl (by kernel_rfl) (by kernel_rfl) (by kernel_rfl) (fun _ _ _ h => h) (by rfl) (by assumption) ?_
          (try simp only [List.getElem_toArray, List.getElem_cons_zero, List.getElem_cons_succ, Act.put, List.setIfInBounds_toArray, List.set_cons_zero, List.set_cons_succ])
          refine wpAnyH_skip (i := 27) rfl (by kernel_rfl) (by kernel_rfl) (by kernel_rfl) (fun _ _ _ h => h) (by rfl) (by assumption) ?_
          (try simp only [List.getElem_toArray, List.getElem_cons_zero, List.getElem_cons_succ, Act.put, List.setIfInBounds_toArray, List.set_cons_zero, List.set_cons_succ])
          refine wpAnyH_skip (i := 28) rfl (by kernel_rfl) (by kernel_rfl) (by kernel_rfl) (fun _ _ _ h => h) (by rfl) (by assumption) ?_
          (try simp only [List.getElem_toArray, List.getElem_cons_zero, List.getElem_cons_succ, Act.put, List.setIfInBounds_toArray, List.set_cons_zero, List.set_cons_succ])
          refine wpAnyH_skip (i := 29) rfl (by kernel_rfl) (by kernel_rfl) (by kernel_rfl) (fun _ _ _ h => h) (by rfl) (by assumption) ?_
          (try simp only [List.getElem_toArray, List.getElem_cons_zero, List.getElem_cons_succ, Act.put, List.setIfInBounds_toArray, List.set_cons_zero, List.set_cons_succ])
          refine wpAnyH_skip (i := 30) rfl (by kernel_rfl) (by kernel_rfl) (by kernel_rfl) (fun _ _ _ h => h) (by rfl) (by assumption) ?_
          (try simp only [List.getElem_toArray, List.getElem_cons_zero, List.getElem_cons_succ, Act.put, List.setIfInBounds_toArray, List.set_cons_zero, List.set_cons_succ])
          refine wpAnyH_skip (i := 31) rfl (by kernel_rfl) (by kernel_rfl) (by kernel_rfl) (fun _ _ _ h => h) (by rfl) (by assumption) ?_
          (try simp only [List.getElem_toArray, List.getElem_cons_zero, List.getElem_cons_succ, Act.put, List.setIfInBounds_toArray, List.set_cons_zero, List.set_cons_succ])
          refine wpAnyH_skip (i := 32) rfl (by kernel_rfl) (by kernel_rfl) (by kernel_rfl) (fun _ _ _ h => h) (by rfl) (by assumption) ?_
          (try simp only [List.getElem_toArray, List.getElem_cons_zero, List.getElem_cons_succ, Act.put, List.setIfInBounds_toArray, List.set_cons_zero, List.set_cons_succ])
          refine wpAnyH_go (i := 33) (v := ?v11_33) rfl (by kernel_rfl) (by kernel_rfl) (by kernel_rfl) (fun _ _ _ h => h) (by rfl) ?hy11_33 (by assumption) ?rest11_33
          case hy11_33 => (intro w_ hSw; (try dsimp only at hSw); go_simp; (try (with_reducible rfl)))
          (try simp only [List.getElem_toArray, List.getElem_cons_zero, List.getElem_cons_succ, Act.put, List.setIfInBounds_toArray, List.set_cons_zero, List.set_cons_succ])
          refine wpAnyH_done (by kernel_rfl) ?_ _
          refine NoPanic.normal ?_
          all_goals (
            go_wp2
            go_ret
            exact ⟨ret_bool HF.out.symm, hb.trans ((hbW.trans (Below.mono (by first | exact hb2 | exact (Below.refl _ _).drew.trans hb2 | exact below_drewN hb2 _ | exact (below_drewN (Below.refl _ _) _).trans hb2 | exact bel) hq2)).mono hzr)⟩)
        · by_cases hj0 : j = 0
          · have hjz : ¬ 0 < j := (by omega); have hdj : decide (0 < j) = false := (by simp [hj0]); have HJ0 := Lib.hid hj0; clear hj0
            have hqn := fun W => s_NameOk nm W hnm
            simp only [hnok] at hqn
            have HQN := hide hqn
            clear hqn
            go_wp2
            have hs0 := hss
            obtain ⟨w0, hw0⟩ : ∃ W, W = wr := ⟨_, rfl⟩
            have hbW : Below wr.heap.size wr w0 := by rw [hw0]; exact Below.refl _ _
            rw [← hw0] at hs0 hc0 hc1 hc2 hc3 ⊢
            have hq2 : wr.heap.size ≤ w0.heap.size := hbW.size
            have hq1 : (ad.add (j * 4)).block < w0.heap.size := by rw [block_of_add]; omega
            clear hw0
            have hs0B := hs0.more (B' := w0.heap.size) (by omega)
            refine wp_region_noPanic ?_
            refine wp_region_held_drew (S := (fun W => (∀ p : Addr, p.block < w0.heap.size → W.cell? p = w0.cell? p) ∧ (∀ p : Addr, p.block < w0.heap.size → W.frozen? p = w0.frozen? p) ∧ Below w0.heap.size w0 W)) (by kernel_rfl) ?_ (fun hHeld => ?_)
            · exact (keep_ofP bel)
            refine wpAnyH_go (i := 0) (v := ?v12_0) rfl (by kernel_rfl) (by kernel_rfl) (by kernel_rfl) (fun _ _ _ h => h) (by rfl) ?hy12_0 (by assumption) ?rest12_0
            case hy12_0 => (intro w_ hSw; (try dsimp only at hSw); go_simp; (try (with_reducible rfl)))
            (try simp only [List.getElem_toArray, List.getElem_cons_zero, Act.put, List.setIfInBounds_toArray, List.set_cons_zero, List.set_cons_succ])
            refine wpAnyH_go (i := 1) (v := ?v12_1) rfl (by kernel_rfl) (by kernel_rfl) (by kernel_rfl) (fun _ _ _ h => h) (by rfl) ?hy12_1 (by assumption) ?rest12_1
            case hy12_1 => (intro w_ hSw; (try dsimp only at hSw); go_simp; (try (with_reducible rfl)))
            (try simp only [List.getElem_toArray, List.getElem_cons_zero, List.getElem_cons_succ, Act.put, List.setIfInBounds_toArray, List.set_cons_zero, List.set_cons_succ])
            refine wpAnyH_go (i := 2) (v := ?v12_2) rfl (by kernel_rfl) (by kernel_rfl) (by kernel_rfl) (fun _ _ _ h => h) (by rfl) ?hy12_2 (by assumption) ?rest12_2
            case hy12_2 => (intro w_ hSw; (try dsimp only at hSw); go_simp; (try (with_reducible rfl)))
            (try simp only [List.getElem_toArray, List.getElem_cons_zero, List.getElem_cons_succ, Act.put, List.setIfInBounds_toArray, List.set_cons_zero, List.set_cons_succ])
            refine wpAnyH_go (i := 3) (v := ?v12_3) rfl (by kernel_rfl) (by kernel_rfl) (by kernel_rfl) (fun _ _ _ h => h) (by rfl) ?hy12_3 (by assumption) ?rest12_3
            case hy12_3 => (intro w_ hSw; (try dsimp only at hSw); go_simp; (try (with_reducible rfl)))
            (try simp only [List.getElem_toArray, List.getElem_cons_zero, List.getElem_cons_succ, Act.put, List.setIfInBounds_toArray, List.set_cons_zero, List.set_cons_succ])
            refine wpAnyH_go (i := 4) (v := ?v12_4) rfl (by kernel_rfl) (by kernel_rfl) (by kernel_rfl) (fun _ _ _ h => h) (by rfl) ?hy12_4 (by assumption) ?rest12_4
            case hy12_4 => (intro w_ hSw; (try dsimp only at hSw); go_simp; (try (with_reducible rfl)))
            (try simp only [List.getElem_toArray, List.getElem_cons_zero, List.getElem_cons_succ, Act.put, List.setIfInBounds_toArray, List.set_cons_zero, List.set_cons_succ])
            refine wpAnyH_ready (rs := [5]) (by kernel_rfl) (by simp) ?_
            refine AllReadyH.cons rfl (fun K hK => ?_) AllReadyH.nil
            go_simp
            (refine (unhide HQN _).mono ?_; rintro e w' ⟨rfl, rfl⟩)
            (try (go_wp2_with fail))
            refine hK.out _ _ ?_ (fun hHeld => ?_)
            · exact (keep_ofP bel)
            clear hK K
            (try simp only [List.getElem_toArray, List.getElem_cons_zero, List.getElem_cons_succ, Act.put, List.setIfInBounds_toArray, List.set_cons_zero, List.set_cons_succ])
            refine wpAnyH_go (i := 6) (v := ?v12_6) rfl (by kernel_rfl) (by kernel_rfl) (by kernel_rfl) (fun _ _ _ h => h) (by rfl) ?hy12_6 (by assumption) ?rest12_6
            case hy12_6 => (intro w_ hSw; (try dsimp only at hSw); go_simp; (try (with_reducible rfl)))
            (try simp only [List.getElem_toArray, List.getElem_cons_zero, List.getElem_cons_succ, Act.put, List.setIfInBounds_toArray, List.set_cons_zero, List.set_cons_succ])
            refine wpAnyH_go (i := 7) (v := ?v12_7) rfl (by kernel_rfl) (by kernel_rfl) (by kernel_rfl) (fun _ _ _ h => h) (by rfl) ?hy12_7 (by assumption) ?rest12_7
            case hy12_7 => (intro w_ hSw; (try dsimp only at hSw); go_simp; (try (with_reducible rfl)))
            (try simp only [List.getElem_toArray, List.getElem_cons_zero, List.getElem_cons_succ, Act.put, List.setIfInBounds_toArray, List.set_cons_zero, List.set_cons_succ])
            refine wpAnyH_go (i := 8) (v := ?v12_8) rfl (by kernel_rfl) (by kernel_rfl) (by kernel_rfl) (fun _ _ _ h => h) (by rfl) ?hy12_8 (by assumption) ?rest12_8
            case hy12_8 => (intro w_ hSw; (try dsimp only at hSw); go_simp; (try (with_reducible rfl)))
            (try simp only [List.getElem_toArray, List.getElem_cons_zero, List.getElem_cons_succ, Act.put, List.setIfInBounds_toArray, List.set_cons_zero, List.set_cons_succ])
            refine wpAnyH_go (i := 9) (v := ?v12_9) rfl (by kernel_rfl) (by kernel_rfl) (by kernel_rfl) (fun _ _ _ h => h) (by rfl) ?hy12_9 (by assumption) ?rest12_9
            case hy12_9 => (intro w_ hSw; (try dsimp only at hSw); go_simp; (try (with_reducible rfl)))
            (try simp only [List.getElem_toArray, List.getElem_cons_zero, List.getElem_cons_succ, Act.put, List.setIfInBounds_toArray, List.set_cons_zero, List.set_cons_succ])
            refine wpAnyH_go (i := 10) (v := ?v12_10) rfl (by kernel_rfl) (by kernel_rfl) (by kernel_rfl) (fun _ _ _ h => h) (by rfl) ?hy12_10 (by assumption) ?rest12_10
            case hy12_10 => (intro w_ hSw; (try dsimp only at hSw); go_simp; (try (with_reducible rfl)))
            (try simp only [List.getElem_toArray, List.getElem_cons_zero, List.getElem_cons_succ, Act.put, List.setIfInBounds_toArray, List.set_cons_zero, List.set_cons_succ])
            refine wpAnyH_go (i := 11) (v := ?v12_11) rfl (by kernel_rfl) (by kernel_rfl) (by kernel_rfl) (fun _ _ _ h => h) (by rfl) ?hy12_11 (by assumption) ?rest12_11
            case hy12_11 => (intro w_ hSw; (try dsimp only at hSw); go_simp; (try (with_reducible rfl)))
            (try simp only [List.getElem_toArray, List.getElem_cons_zero, List.getElem_cons_succ, Act.put, List.setIfInBounds_toArray, List.set_cons_zero, List.set_cons_succ])
            refine wpAnyH_go (i := 12) (v := ?v12_12) rfl (by kernel_rfl) (by kernel_rfl) (by kernel_rfl) (fun _ _ _ h => h) (by rfl) ?hy12_12 (by assumption) ?rest12_12
            case hy12_12 => (intro w_ hSw; (try dsimp only at hSw); go_simp; (try (with_reducible rfl)))
            (try simp only [List.getElem_toArray, List.getElem_cons_zero, List.getElem_cons_succ, Act.put, List.setIfInBounds_toArray, List.set_cons_zero, List.set_cons_succ])
            refine wpAnyH_ready (rs := [13]) (by kernel_rfl) (by simp) ?_
            refine AllReadyH.cons rfl (fun K hK => ?_) AllReadyH.nil
            go_simp
            (have hq := (‹_ ∧ _ ∧ Below _ _ _›).2.2; refine (s_CardOk d f _ _ _ ss _ ?_).mono ?_; exact (hs0B.below hq).more hq.size; rw [hck]; rintro e w2 ⟨rfl, hb2⟩)
            (try (go_wp2_with fail))
            refine hK.out _ _ ?_ (fun hHeld => ?_)
            · exact (keep_ofP bel)
            clear hK K
            (try simp only [List.getElem_toArray, List.getElem_cons_zero, List.getElem_cons_succ, Act.put, List.setIfInBounds_toArray, List.set_cons_zero, List.set_cons_succ])
            refine wpAnyH_go (i := 14) (v := ?v12_14) rfl (by kernel_rfl) (by kernel_rfl) (by kernel_rfl) (fun _ _ _ h => h) (by rfl) ?hy12_14 (by assumption) ?rest12_14
            case hy12_14 => (intro w_ hSw; (try dsimp only at hSw); go_simp; (try (with_reducible rfl)))
            (try simp only [List.getElem_toArray, List.getElem_cons_zero, List.getElem_cons_succ, Act.put, List.setIfInBounds_toArray, List.set_cons_zero, List.set_cons_succ])
            refine wpAnyH_go (i := 15) (v := ?v12_15) rfl (by kernel_rfl) (by kernel_rfl) (by kernel_rfl) (fun _ _ _ h => h) (by rfl) ?hy12_15 (by assumption) ?rest12_15
            case hy12_15 => (intro w_ hSw; (try dsimp only at hSw); go_simp; (try (with_reducible rfl)))
            (try simp only [List.getElem_toArray, List.getElem_cons_zero, List.getElem_cons_succ, Act.put, List.setIfInBounds_toArray, List.set_cons_zero, List.set_cons_succ])
            refine wpAnyH_go (i := 16) (v := ?v12_16) rfl (by kernel_rfl) (by kernel_rfl) (by kernel_rfl) (fun _ _ _ h => h) (by rfl) ?hy12_16 (by assumption) ?rest12_16
            case hy12_16 => (intro w_ hSw; (try dsimp only at hSw); go_simp; (try (with_reducible rfl)))
            (try simp only [List.getElem_toArray, List.getElem_cons_zero, List.getElem_cons_succ, Act.put, List.setIfInBounds_toArray, List.set_cons_zero, List.set_cons_succ])
            refine wpAnyH_go (i := 17) (v := ?v12_17) rfl (by kernel_rfl) (by kernel_rfl) (by kernel_rfl) (fun _ _ _ h => h) (by rfl) ?hy12_17 (by assumption) ?rest12_17
            case hy12_17 => (intro w_ hSw; (try dsimp only at hSw); go_simp; (try (with_reducible rfl)))
            (try simp only [List.getElem_toArray, List.getElem_cons_zero, List.getElem_cons_succ, Act.put, List.setIfInBounds_toArray, List.set_cons_zero, List.set_cons_succ])
            refine wpAnyH_go (i := 18) (v := ?v12_18) rfl (by kernel_rfl) (by kernel_rfl) (by kernel_rfl) (fun _ _ _ h => h) (by rfl) ?hy12_18 (by assumption) ?rest12_18
            case hy12_18 => (intro w_ hSw; (try dsimp only at hSw); go_simp; (try (with_reducible rfl)))
            (try simp only [List.getElem_toArray, List.getElem_cons_zero, List.getElem_cons_succ, Act.put, List.setIfInBounds_toArray, List.set_cons_zero, List.set_cons_succ])
            refine wpAnyH_go (i := 19) (v := ?v12_19) rfl (by kernel_rfl) (by kernel_rfl) (by kernel_rfl) (fun _ _ _ h => h) (by rfl) ?hy12_19 (by assumption) ?rest12_19
            case hy12_19 => (intro w_ hSw; (try dsimp only at hSw); go_simp; (try (with_reducible rfl)))
            (try simp only [List.getElem_toArray, List.getElem_cons_zero, List.getElem_cons_succ, Act.put, List.setIfInBounds_toArray, List.set_cons_zero, List.set_cons_succ])
            refine wpAnyH_skip (i := 20) rfl (by kernel_rfl) (by kernel_rfl) (by kernel_rfl) (fun _ _ _ h => h) (by rfl) (by assumption) ?_
            (try simp only [List.getElem_toArray, List.getElem_cons_zero, List.getElem_cons_succ, Act.put, List.setIfInBounds_toArray, List.set_cons_zero, List.set_cons_succ])
            refine wpAnyH_skip (i := 21) rfl (by kernel_rfl) (by kernel_rfl) (by kernel_rfl) (fun _ _ _ h => h) (by rfl) (by assumption) ?_
            (try simp only [List.getElem_toArray, List.getElem_cons_zero, List.getElem_cons_succ, Act.put, List.setIfInBounds_toArray, List.set_cons_zero, List.set_cons_succ])
            refine wpAnyH_skip (i := 22) rfl (by kernel_rfl) (by kernel_rfl) (by kernel_rfl) (fun _ _ _ h => h) (by rfl) (by assumption) ?_
            (try simp only [List.getElem_toArray, List.getElem_cons_zero, List.getElem_cons_succ, Act.put, List.setIfInBounds_toArray, List.set_cons_zero, List.set_cons_succ])
            refine wpAnyH_skip (i := 23) rfl (by kernel_rfl) (by kernel_rfl) (by kernel_rfl) (fun _ _ _ h => h) (by rfl) (by assumption) ?_
            (try simp only [List.getElem_toArray, List.getElem_cons_zero, List.getElem_cons_succ, Act.put, List.setIfInBounds_toArray, List.set_cons_zero, List.set_cons_succ])
            refine wpAnyH_skip (i := 24) rfl (by kernel_rfl) (by kernel_rfl) (by kernel_rfl) (fun _ _ _ h => h) (by rfl) (by assumption) ?_
            (try simp only [List.getElem_toArray, List.getElem_cons_zero, List.getElem_cons_succ, Act.put, List.setIfInBounds_toArray, List.set_cons_zero, List.set_cons_succ])
            refine wpAnyH_skip (i := 25) rfl (by kernel_rfl) (by kernel_rfl) (by kernel_rfl) (fun _ _ _ h => h) (by rfl) (by assumption) ?_
            (try simp only [List.getElem_toArray, List.getElem_cons_zero, List.getElem_cons_succ, Act.put, List.setIfInBounds_toArray, List.set_cons_zero, List.set_cons_succ])
            refine wpAnyH_skip (i := 26) rfl (by kernel_rfl) (by kernel_rfl) (by kernel_rfl) (fun _ _ _ h => h) (by rfl) (by assumption) ?_
            (try simp only [List.getElem_toArray, List.getElem_cons_zero, List.getElem_cons_succ, Act.put, List.setIfInBounds_toArray, List.set_cons_zero, List.set_cons_succ])
            refine wpAnyH_skip (i := 27) rfl (by kernel_rfl) (by kernel_rfl) (by kernel_rfl) (fun _ _ _ h => h) (by rfl) (by assumption) ?_
            (try simp only [List.getElem_toArray, List.getElem_cons_zero, List.getElem_cons_succ, Act.put, List.setIfInBounds_toArray, List.set_cons_zero, List.set_cons_succ])
            refine wpAnyH_skip (i := 28) rfl (by kernel_rfl) (by kernel_rfl) (by kernel_rfl) (fun _ _ _ h => h) (by rfl) (by assumption) ?_
            (try simp only [List.getElem_toArray, List.getElem_cons_zero, List.getElem_cons_succ, Act.put, List.setIfInBounds_toArray, List.set_cons_zero, List.set_cons_succ])
            refine wpAnyH_skip (i := 29) rfl (by kernel_rfl) (by kernel_rfl) (by kernel_rfl) (fun _ _ _ h => h) (by rfl) (by assumption) ?_
            (try simp only [List.getElem_toArray, List.getElem_cons_zero, List.getElem_cons_succ, Act.put, List.setIfInBounds_toArray, List.set_cons_zero, List.set_cons_succ])
            refine wpAnyH_skip (i := 30) rfl (by kernel_rfl) (by kernel_rfl) (by kernel_rfl) (fun _ _ _ h => h) (by rfl) (by assumption) ?_
            (try simp only [List.getElem_toArray, List.getElem_cons_zero, List.getElem_cons_succ, Act.put, List.setIfInBounds_toArray, List.set_cons_zero, List.set_cons_succ])
            refine wpAnyH_skip (i := 31) rfl (by kernel_rfl) (by kernel_rfl) (by kernel_rfl) (fun _ _ _ h => h) (by rfl) (by assumption) ?_
            (try simp only [List.getElem_toArray, List.getElem_cons_zero, List.getElem_cons_succ, Act.put, List.setIfInBounds_toArray, List.set_cons_zero, List.set_cons_succ])
            refine wpAnyH_go (i := 32) (v := ?v12_32) rfl (by kernel_rfl) (by kernel_rfl) (by kernel_rfl) (fun _ _ _ h => h) (by rfl) ?hy12_32 (by assumption) ?rest12_32
            case hy12_32 => (intro w_ hSw; (try dsimp only at hSw); go_simp; (try (with_reducible rfl)))
            (try simp only [List.getElem_toArray, List.getElem_cons_zero, List.getElem_cons_succ, Act.put, List.setIfInBounds_toArray, List.set_cons_zero, List.set_cons_succ])
            refine wpAnyH_go (i := 33) (v := ?v12_33) rfl (by kernel_rfl) (by kernel_rfl) (by kernel_rfl) (fun _ _ _ h => h) (by rfl) ?hy12_33 (by assumption) ?rest12_33
            case hy12_33 => (intro w_ hSw; (try dsimp only at hSw); go_simp; (try (with_reducible rfl)))
            (try simp only [List.getElem_toArray, List.getElem_cons_zero, List.getElem_cons_succ, Act.put, List.setIfInBounds_toArray, List.set_cons_zero, List.set_cons_succ])
            refine wpAnyH_done (by kernel_rfl) ?_ _
            refine NoPanic.normal ?_
            all_goals (
              go_wp2
              go_roundw
              case rel => exact ⟨j + 1, by omega, by go_num, all_range_succ HA.out (by rw [itGood_z HJ0.out HX.out]; simp [hnok, hck]), hb.trans ((hbW.trans (Below.mono (by first | exact hb2 | exact (Below.refl _ _).drew.trans hb2 | exact below_drewN hb2 _ | exact (below_drewN (Below.refl _ _) _).trans hb2 | exact bel) hq2)).mono hzr)⟩
              case measure => simp [intOf]; omega)
          · obtain ⟨K, hK⟩ : ∃ K, j = K + 1 := ⟨j - 1, by omega⟩; obtain ⟨hkq, adq, hade, habq, hq0, hq1_, hq2_, hq3_, hssq, hnmq⟩ := hSr.at_ (k := K) (by omega)
            have hKn : K < n := by omega
            have HK := Lib.hid hK
            have hwk : IntKind.i64.wrap ((j : Int) - 1) = K := by rw [show (j : Int) - 1 = (K : Int) by omega, IntWalk.i64_in _ (by omega)]
            have hjp : 0 < j := by omega
            have hdj : decide (0 < j) = true := by simp [hjp]
            have hkn1 : (0 : Int) ≤ (K : Int) := by omega
            have hkn2 : (K : Int) < n := by omega
            clear hK hj0
            have hadq : adq = ad := by injection hade with h; exact h.symm
            rw [hadq] at hq0
            clear hq1_ hq2_ hq3_ hssq hade habq hadq
            have HXP := Lib.hid (show P[K]? = some L[K].x by rw [← HP.out]; exact plI_at hkq)
            obtain ⟨nq, hnq⟩ : ∃ a, a = L[K].x.nm := ⟨_, rfl⟩
            rw [← hnq] at hq0 hnmq
            have hpc := hq0
            have HNQ := Lib.hid hnq
            clear hq0 hnq
            cases hl1 : Op.bytesLess nm.toList nq.toList
            · cases hl2 : (nm.toList == nq.toList)
              · skip
                have hqn := fun W => s_NameOk nm W hnm
                simp only [hnok] at hqn
                have HQN := hide hqn
                clear hqn
                go_wp2
                have hs0 := hss
                obtain ⟨w0, hw0⟩ : ∃ W, W = wr := ⟨_, rfl⟩
                have hbW : Below wr.heap.size wr w0 := by rw [hw0]; exact Below.refl _ _
                rw [← hw0] at hs0 hc0 hc1 hc2 hc3 ⊢
                rw [← hw0] at hpc
                have hq2 : wr.heap.size ≤ w0.heap.size := hbW.size
                have hq1 : (ad.add (j * 4)).block < w0.heap.size := by rw [block_of_add]; omega
                have hpq2 : (ad.add (K * 4)).block < w0.heap.size := (by rw [block_of_add]; omega)
                clear hw0
                have hs0B := hs0.more (B' := w0.heap.size) (by omega)
                refine wp_region_noPanic ?_
                refine wp_region_held_drew (S := (fun W => (∀ p : Addr, p.block < w0.heap.size → W.cell? p = w0.cell? p) ∧ (∀ p : Addr, p.block < w0.heap.size → W.frozen? p = w0.frozen? p) ∧ Below w0.heap.size w0 W)) (by kernel_rfl) ?_ (fun hHeld => ?_)
                · exact (keep_ofP bel)
                refine wpAnyH_go (i := 0) (v := ?v13_0) rfl (by kernel_rfl) (by kernel_rfl) (by kernel_rfl) (fun _ _ _ h => h) (by rfl) ?hy13_0 (by assumption) ?rest13_0
                case hy13_0 => (intro w_ hSw; (try dsimp only at hSw); go_simp; (try (with_reducible rfl)))
                (try simp only [List.getElem_toArray, List.getElem_cons_zero, Act.put, List.setIfInBounds_toArray, List.set_cons_zero, List.set_cons_succ])
                refine wpAnyH_go (i := 1) (v := ?v13_1) rfl (by kernel_rfl) (by kernel_rfl) (by kernel_rfl) (fun _ _ _ h => h) (by rfl) ?hy13_1 (by assumption) ?rest13_1
                case hy13_1 => (intro w_ hSw; (try dsimp only at hSw); go_simp; (try (with_reducible rfl)))
                (try simp only [List.getElem_toArray, List.getElem_cons_zero, List.getElem_cons_succ, Act.put, List.setIfInBounds_toArray, List.set_cons_zero, List.set_cons_succ])
                refine wpAnyH_go (i := 2) (v := ?v13_2) rfl (by kernel_rfl) (by kernel_rfl) (by kernel_rfl) (fun _ _ _ h => h) (by rfl) ?hy13_2 (by assumption) ?rest13_2
                case hy13_2 => (intro w_ hSw; (try dsimp only at hSw); go_simp; (try (with_reducible rfl)))
                (try simp only [List.getElem_toArray, List.getElem_cons_zero, List.getElem_cons_succ, Act.put, List.setIfInBounds_toArray, List.set_cons_zero, List.set_cons_succ])
                refine wpAnyH_go (i := 3) (v := ?v13_3) rfl (by kernel_rfl) (by kernel_rfl) (by kernel_rfl) (fun _ _ _ h => h) (by rfl) ?hy13_3 (by assumption) ?rest13_3
                case hy13_3 => (intro w_ hSw; (try dsimp only at hSw); go_simp; (try (with_reducible rfl)))
                (try simp only [List.getElem_toArray, List.getElem_cons_zero, List.getElem_cons_succ, Act.put, List.setIfInBounds_toArray, List.set_cons_zero, List.set_cons_succ])
                refine wpAnyH_go (i := 4) (v := ?v13_4) rfl (by kernel_rfl) (by kernel_rfl) (by kernel_rfl) (fun _ _ _ h => h) (by rfl) ?hy13_4 (by assumption) ?rest13_4
                case hy13_4 => (intro w_ hSw; (try dsimp only at hSw); go_simp; (try (with_reducible rfl)))
                (try simp only [List.getElem_toArray, List.getElem_cons_zero, List.getElem_cons_succ, Act.put, List.setIfInBounds_toArray, List.set_cons_zero, List.set_cons_succ])
                refine wpAnyH_ready (rs := [5]) (by kernel_rfl) (by simp) ?_
                refine AllReadyH.cons rfl (fun K hK => ?_) AllReadyH.nil
                go_simp
                (refine (unhide HQN _).mono ?_; rintro e w' ⟨rfl, rfl⟩)
                (try (go_wp2_with fail))
                refine hK.out _ _ ?_ (fun hHeld => ?_)
                · exact (keep_ofP bel)
                clear hK K
                (try simp only [List.getElem_toArray, List.getElem_cons_zero, List.getElem_cons_succ, Act.put, List.setIfInBounds_toArray, List.set_cons_zero, List.set_cons_succ])
                refine wpAnyH_go (i := 6) (v := ?v13_6) rfl (by kernel_rfl) (by kernel_rfl) (by kernel_rfl) (fun _ _ _ h => h) (by rfl) ?hy13_6 (by assumption) ?rest13_6
                case hy13_6 => (intro w_ hSw; (try dsimp only at hSw); go_simp; (try (with_reducible rfl)))
                (try simp only [List.getElem_toArray, List.getElem_cons_zero, List.getElem_cons_succ, Act.put, List.setIfInBounds_toArray, List.set_cons_zero, List.set_cons_succ])
                refine wpAnyH_go (i := 7) (v := ?v13_7) rfl (by kernel_rfl) (by kernel_rfl) (by kernel_rfl) (fun _ _ _ h => h) (by rfl) ?hy13_7 (by assumption) ?rest13_7
                case hy13_7 => (intro w_ hSw; (try dsimp only at hSw); go_simp; (try (with_reducible rfl)))
                (try simp only [List.getElem_toArray, List.getElem_cons_zero, List.getElem_cons_succ, Act.put, List.setIfInBounds_toArray, List.set_cons_zero, List.set_cons_succ])
                refine wpAnyH_go (i := 8) (v := ?v13_8) rfl (by kernel_rfl) (by kernel_rfl) (by kernel_rfl) (fun _ _ _ h => h) (by rfl) ?hy13_8 (by assumption) ?rest13_8
                case hy13_8 => (intro w_ hSw; (try dsimp only at hSw); go_simp; (try (with_reducible rfl)))
                (try simp only [List.getElem_toArray, List.getElem_cons_zero, List.getElem_cons_succ, Act.put, List.setIfInBounds_toArray, List.set_cons_zero, List.set_cons_succ])
                refine wpAnyH_go (i := 9) (v := ?v13_9) rfl (by kernel_rfl) (by kernel_rfl) (by kernel_rfl) (fun _ _ _ h => h) (by rfl) ?hy13_9 (by assumption) ?rest13_9
                case hy13_9 => (intro w_ hSw; (try dsimp only at hSw); go_simp; (try (with_reducible rfl)))
                (try simp only [List.getElem_toArray, List.getElem_cons_zero, List.getElem_cons_succ, Act.put, List.setIfInBounds_toArray, List.set_cons_zero, List.set_cons_succ])
                refine wpAnyH_go (i := 10) (v := ?v13_10) rfl (by kernel_rfl) (by kernel_rfl) (by kernel_rfl) (fun _ _ _ h => h) (by rfl) ?hy13_10 (by assumption) ?rest13_10
                case hy13_10 => (intro w_ hSw; (try dsimp only at hSw); go_simp; (try (with_reducible rfl)))
                (try simp only [List.getElem_toArray, List.getElem_cons_zero, List.getElem_cons_succ, Act.put, List.setIfInBounds_toArray, List.set_cons_zero, List.set_cons_succ])
                refine wpAnyH_go (i := 11) (v := ?v13_11) rfl (by kernel_rfl) (by kernel_rfl) (by kernel_rfl) (fun _ _ _ h => h) (by rfl) ?hy13_11 (by assumption) ?rest13_11
                case hy13_11 => (intro w_ hSw; (try dsimp only at hSw); go_simp; (try (with_reducible rfl)))
                (try simp only [List.getElem_toArray, List.getElem_cons_zero, List.getElem_cons_succ, Act.put, List.setIfInBounds_toArray, List.set_cons_zero, List.set_cons_succ])
                refine wpAnyH_go (i := 12) (v := ?v13_12) rfl (by kernel_rfl) (by kernel_rfl) (by kernel_rfl) (fun _ _ _ h => h) (by rfl) ?hy13_12 (by assumption) ?rest13_12
                case hy13_12 => (intro w_ hSw; (try dsimp only at hSw); go_simp; (try (with_reducible rfl)))
                (try simp only [List.getElem_toArray, List.getElem_cons_zero, List.getElem_cons_succ, Act.put, List.setIfInBounds_toArray, List.set_cons_zero, List.set_cons_succ])
                refine wpAnyH_ready (rs := [13]) (by kernel_rfl) (by simp) ?_
                refine AllReadyH.cons rfl (fun K hK => ?_) AllReadyH.nil
                go_simp
                (have hq := (‹_ ∧ _ ∧ Below _ _ _›).2.2; refine (s_CardOk d f _ _ _ ss _ ?_).mono ?_; exact (hs0B.below hq).more hq.size; rw [hck]; rintro e w2 ⟨rfl, hb2⟩)
                (try (go_wp2_with fail))
                refine hK.out _ _ ?_ (fun hHeld => ?_)
                · exact (keep_ofP bel)
                clear hK K
                (try simp only [List.getElem_toArray, List.getElem_cons_zero, List.getElem_cons_succ, Act.put, List.setIfInBounds_toArray, List.set_cons_zero, List.set_cons_succ])
                refine wpAnyH_go (i := 14) (v := ?v13_14) rfl (by kernel_rfl) (by kernel_rfl) (by kernel_rfl) (fun _ _ _ h => h) (by rfl) ?hy13_14 (by assumption) ?rest13_14
                case hy13_14 => (intro w_ hSw; (try dsimp only at hSw); go_simp; (try (with_reducible rfl)))
                (try simp only [List.getElem_toArray, List.getElem_cons_zero, List.getElem_cons_succ, Act.put, List.setIfInBounds_toArray, List.set_cons_zero, List.set_cons_succ])
                refine wpAnyH_go (i := 15) (v := ?v13_15) rfl (by kernel_rfl) (by kernel_rfl) (by kernel_rfl) (fun _ _ _ h => h) (by rfl) ?hy13_15 (by assumption) ?rest13_15
                case hy13_15 => (intro w_ hSw; (try dsimp only at hSw); go_simp; (try (with_reducible rfl)))
                (try simp only [List.getElem_toArray, List.getElem_cons_zero, List.getElem_cons_succ, Act.put, List.setIfInBounds_toArray, List.set_cons_zero, List.set_cons_succ])
                refine wpAnyH_go (i := 16) (v := ?v13_16) rfl (by kernel_rfl) (by kernel_rfl) (by kernel_rfl) (fun _ _ _ h => h) (by rfl) ?hy13_16 (by assumption) ?rest13_16
                case hy13_16 => (intro w_ hSw; (try dsimp only at hSw); go_simp; (try (with_reducible rfl)))
                (try simp only [List.getElem_toArray, List.getElem_cons_zero, List.getElem_cons_succ, Act.put, List.setIfInBounds_toArray, List.set_cons_zero, List.set_cons_succ])
                refine wpAnyH_go (i := 17) (v := ?v13_17) rfl (by kernel_rfl) (by kernel_rfl) (by kernel_rfl) (fun _ _ _ h => h) (by rfl) ?hy13_17 (by assumption) ?rest13_17
                case hy13_17 => (intro w_ hSw; (try dsimp only at hSw); go_simp; (try (with_reducible rfl)))
                (try simp only [List.getElem_toArray, List.getElem_cons_zero, List.getElem_cons_succ, Act.put, List.setIfInBounds_toArray, List.set_cons_zero, List.set_cons_succ])
                refine wpAnyH_go (i := 18) (v := ?v13_18) rfl (by kernel_rfl) (by kernel_rfl) (by kernel_rfl) (fun _ _ _ h => h) (by rfl) ?hy13_18 (by assumption) ?rest13_18
                case hy13_18 => (intro w_ hSw; (try dsimp only at hSw); go_simp; (try (with_reducible rfl)))
                (try simp only [List.getElem_toArray, List.getElem_cons_zero, List.getElem_cons_succ, Act.put, List.setIfInBounds_toArray, List.set_cons_zero, List.set_cons_succ])
                refine wpAnyH_go (i := 19) (v := ?v13_19) rfl (by kernel_rfl) (by kernel_rfl) (by kernel_rfl) (fun _ _ _ h => h) (by rfl) ?hy13_19 (by assumption) ?rest13_19
                case hy13_19 => (intro w_ hSw; (try dsimp only at hSw); go_simp; (try (with_reducible rfl)))
                (try simp only [List.getElem_toArray, List.getElem_cons_zero, List.getElem_cons_succ, Act.put, List.setIfInBounds_toArray, List.set_cons_zero, List.set_cons_succ])
                refine wpAnyH_go (i := 20) (v := ?v13_20) rfl (by kernel_rfl) (by kernel_rfl) (by kernel_rfl) (fun _ _ _ h => h) (by rfl) ?hy13_20 (by assumption) ?rest13_20
                case hy13_20 => (intro w_ hSw; (try dsimp only at hSw); go_simp; (try (with_reducible rfl)))
                (try simp only [List.getElem_toArray, List.getElem_cons_zero, List.getElem_cons_succ, Act.put, List.setIfInBounds_toArray, List.set_cons_zero, List.set_cons_succ])
                refine wpAnyH_go (i := 21) (v := ?v13_21) rfl (by kernel_rfl) (by kernel_rfl) (by kernel_rfl) (fun _ _ _ h => h) (by rfl) ?hy13_21 (by assumption) ?rest13_21
                case hy13_21 => (intro w_ hSw; (try dsimp only at hSw); go_simp; (try (with_reducible rfl)))
                (try simp only [List.getElem_toArray, List.getElem_cons_zero, List.getElem_cons_succ, Act.put, List.setIfInBounds_toArray, List.set_cons_zero, List.set_cons_succ])
                refine wpAnyH_go (i := 22) (v := ?v13_22) rfl (by kernel_rfl) (by kernel_rfl) (by kernel_rfl) (fun _ _ _ h => h) (by rfl) ?hy13_22 (by assumption) ?rest13_22
                case hy13_22 => (intro w_ hSw; (try dsimp only at hSw); go_simp; (try (with_reducible rfl)))
                (try simp only [List.getElem_toArray, List.getElem_cons_zero, List.getElem_cons_succ, Act.put, List.setIfInBounds_toArray, List.set_cons_zero, List.set_cons_succ])
                refine wpAnyH_go (i := 23) (v := ?v13_23) rfl (by kernel_rfl) (by kernel_rfl) (by kernel_rfl) (fun _ _ _ h => h) (by rfl) ?hy13_23 (by assumption) ?rest13_23
                case hy13_23 => (intro w_ hSw; (try dsimp only at hSw); go_simp; (try (with_reducible rfl)))
                (try simp only [List.getElem_toArray, List.getElem_cons_zero, List.getElem_cons_succ, Act.put, List.setIfInBounds_toArray, List.set_cons_zero, List.set_cons_succ])
                refine wpAnyH_go (i := 24) (v := ?v13_24) rfl (by kernel_rfl) (by kernel_rfl) (by kernel_rfl) (fun _ _ _ h => h) (by rfl) ?hy13_24 (by assumption) ?rest13_24
                case hy13_24 => (intro w_ hSw; (try dsimp only at hSw); go_simp; (try (with_reducible rfl)))
                (try simp only [List.getElem_toArray, List.getElem_cons_zero, List.getElem_cons_succ, Act.put, List.setIfInBounds_toArray, List.set_cons_zero, List.set_cons_succ])
                refine wpAnyH_go (i := 25) (v := ?v13_25) rfl (by kernel_rfl) (by kernel_rfl) (by kernel_rfl) (fun _ _ _ h => h) (by rfl) ?hy13_25 (by assumption) ?rest13_25
                case hy13_25 => (intro w_ hSw; (try dsimp only at hSw); go_simp; (try (with_reducible rfl)))
                (try simp only [List.getElem_toArray, List.getElem_cons_zero, List.getElem_cons_succ, Act.put, List.setIfInBounds_toArray, List.set_cons_zero, List.set_cons_succ])
                refine wpAnyH_go (i := 26) (v := ?v13_26) rfl (by kernel_rfl) (by kernel_rfl) (by kernel_rfl) (fun _ _ _ h => h) (by rfl) ?hy13_26 (by assumption) ?rest13_26
                case hy13_26 => (intro w_ hSw; (try dsimp only at hSw); go_simp; (try (with_reducible rfl)))
                (try simp only [List.getElem_toArray, List.getElem_cons_zero, List.getElem_cons_succ, Act.put, List.setIfInBounds_toArray, List.set_cons_zero, List.set_cons_succ])
                refine wpAnyH_go (i := 27) (v := ?v13_27) rfl (by kernel_rfl) (by kernel_rfl) (by kernel_rfl) (fun _ _ _ h => h) (by rfl) ?hy13_27 (by assumption) ?rest13_27
                case hy13_27 => (intro w_ hSw; (try dsimp only at hSw); go_simp; (try (with_reducible rfl)))
                (try simp only [List.getElem_toArray, List.getElem_cons_zero, List.getElem_cons_succ, Act.put, List.setIfInBounds_toArray, List.set_cons_zero, List.set_cons_succ])
                refine wpAnyH_go (i := 28) (v := ?v13_28) rfl (by kernel_rfl) (by kernel_rfl) (by kernel_rfl) (fun _ _ _ h => h) (by rfl) ?hy13_28 (by assumption) ?rest13_28
                case hy13_28 => (intro w_ hSw; (try dsimp only at hSw); go_simp; (try (with_reducible rfl)))
                (try simp only [List.getElem_toArray, List.getElem_cons_zero, List.getElem_cons_succ, Act.put, List.setIfInBounds_toArray, List.set_cons_zero, List.set_cons_succ])
                refine wpAnyH_go (i := 29) (v := ?v13_29) rfl (by kernel_rfl) (by kernel_rfl) (by kernel_rfl) (fun _ _ _ h => h) (by rfl) ?hy13_29 (by assumption) ?rest13_29
                case hy13_29 => (intro w_ hSw; (try dsimp only at hSw); go_simp; (try (with_reducible rfl)))
                (try simp only [List.getElem_toArray, List.getElem_cons_zero, List.getElem_cons_succ, Act.put, List.setIfInBounds_toArray, List.set_cons_zero, List.set_cons_succ])
                refine wpAnyH_go (i := 30) (v := ?v13_30) rfl (by kernel_rfl) (by kernel_rfl) (by kernel_rfl) (fun _ _ _ h => h) (by rfl) ?hy13_30 (by assumption) ?rest13_30
                case hy13_30 => (intro w_ hSw; (try dsimp only at hSw); go_simp; (try (with_reducible rfl)))
                (try simp only [List.getElem_toArray, List.getElem_cons_zero, List.getElem_cons_succ, Act.put, List.setIfInBounds_toArray, List.set_cons_zero, List.set_cons_succ])
                refine wpAnyH_go (i := 31) (v := ?v13_31) rfl (by kernel_rfl) (by kernel_rfl) (by kernel_rfl) (fun _ _ _ h => h) (by rfl) ?hy13_31 (by assumption) ?rest13_31
                case hy13_31 => (intro w_ hSw; (try dsimp only at hSw); go_simp; (try (with_reducible rfl)))
                (try simp only [List.getElem_toArray, List.getElem_cons_zero, List.getElem_cons_succ, Act.put, List.setIfInBounds_toArray, List.set_cons_zero, List.set_cons_succ])
                refine wpAnyH_go (i := 32) (v := ?v13_32) rfl (by kernel_rfl) (by kernel_rfl) (by kernel_rfl) (fun _ _ _ h => h) (by rfl) ?hy13_32 (by assumption) ?rest13_32
                case hy13_32 => (intro w_ hSw; (try dsimp only at hSw); go_simp; (try (with_reducible rfl)))
                (try simp only [List.getElem_toArray, List.getElem_cons_zero, List.getElem_cons_succ, Act.put, List.setIfInBounds_toArray, List.set_cons_zero, List.set_cons_succ])
                refine wpAnyH_go (i := 33) (v := ?v13_33) rfl (by kernel_rfl) (by kernel_rfl) (by kernel_rfl) (fun _ _ _ h => h) (by rfl) ?hy13_33 (by assumption) ?rest13_33
                case hy13_33 => (intro w_ hSw; (try dsimp only at hSw); go_simp; (try (with_reducible rfl)))
                (try simp only [List.getElem_toArray, List.getElem_cons_zero, List.getElem_cons_succ, Act.put, List.setIfInBounds_toArray, List.set_cons_zero, List.set_cons_succ])
                refine wpAnyH_done (by kernel_rfl) ?_ _
                refine NoPanic.normal ?_
                all_goals (
                  go_wp2
                  go_roundw
                  case rel => exact ⟨j + 1, by omega, by go_num, all_range_succ HA.out (by rw [itGood_j HK.out HX.out HXP.out]; simp [hnok, hck, nmLe, ← HNQ.out, hl1, hl2]), hb.trans ((hbW.trans (Below.mono (by first | exact hb2 | exact (Below.refl _ _).drew.trans hb2 | exact below_drewN hb2 _ | exact (below_drewN (Below.refl _ _) _).trans hb2 | exact bel) hq2)).mono hzr)⟩
                  case measure => simp [intOf]; omega)
              · have HF := Lib.hid (catOk_no (unhide HKP) (by rw [itGood_j HK.out HX.out HXP.out]; simp [nmLe, ← HNQ.out, hl1, hl2]))
                have hqn := fun W => s_NameOk nm W hnm
                simp only [hnok] at hqn
                have HQN := hide hqn
                clear hqn
                go_wp2
                have hs0 := hss
                obtain ⟨w0, hw0⟩ : ∃ W, W = wr := ⟨_, rfl⟩
                have hbW : Below wr.heap.size wr w0 := by rw [hw0]; exact Below.refl _ _
                rw [← hw0] at hs0 hc0 hc1 hc2 hc3 ⊢
                rw [← hw0] at hpc
                have hq2 : wr.heap.size ≤ w0.heap.size := hbW.size
                have hq1 : (ad.add (j * 4)).block < w0.heap.size := by rw [block_of_add]; omega
                have hpq2 : (ad.add (K * 4)).block < w0.heap.size := (by rw [block_of_add]; omega)
                clear hw0
                have hs0B := hs0.more (B' := w0.heap.size) (by omega)
                refine wp_region_noPanic ?_
                refine wp_region_held_drew (S := (fun W => (∀ p : Addr, p.block < w0.heap.size → W.cell? p = w0.cell? p) ∧ (∀ p : Addr, p.block < w0.heap.size → W.frozen? p = w0.frozen? p) ∧ Below w0.heap.size w0 W)) (by kernel_rfl) ?_ (fun hHeld => ?_)
                · exact (keep_ofP bel)
                refine wpAnyH_go (i := 0) (v := ?v14_0) rfl (by kernel_rfl) (by kernel_rfl) (by kernel_rfl) (fun _ _ _ h => h) (by rfl) ?hy14_0 (by assumption) ?rest14_0
                case hy14_0 => (intro w_ hSw; (try dsimp only at hSw); go_simp; (try (with_reducible rfl)))
                (try simp only [List.getElem_toArray, List.getElem_cons_zero, Act.put, List.setIfInBounds_toArray, List.set_cons_zero, List.set_cons_succ])
                refine wpAnyH_go (i := 1) (v := ?v14_1) rfl (by kernel_rfl) (by kernel_rfl) (by kernel_rfl) (fun _ _ _ h => h) (by rfl) ?hy14_1 (by assumption) ?rest14_1
                case hy14_1 => (intro w_ hSw; (try dsimp only at hSw); go_simp; (try (with_reducible rfl)))
                (try simp only [List.getElem_toArray, List.getElem_cons_zero, List.getElem_cons_succ, Act.put, List.setIfInBounds_toArray, List.set_cons_zero, List.set_cons_succ])
                refine wpAnyH_go (i := 2) (v := ?v14_2) rfl (by kernel_rfl) (by kernel_rfl) (by kernel_rfl) (fun _ _ _ h => h) (by rfl) ?hy14_2 (by assumption) ?rest14_2
                case hy14_2 => (intro w_ hSw; (try dsimp only at hSw); go_simp; (try (with_reducible rfl)))
                (try simp only [List.getElem_toArray, List.getElem_cons_zero, List.getElem_cons_succ, Act.put, List.setIfInBounds_toArray, List.set_cons_zero, List.set_cons_succ])
                refine wpAnyH_go (i := 3) (v := ?v14_3) rfl (by kernel_rfl) (by kernel_rfl) (by kernel_rfl) (fun _ _ _ h => h) (by rfl) ?hy14_3 (by assumption) ?rest14_3
                case hy14_3 => (intro w_ hSw; (try dsimp only at hSw); go_simp; (try (with_reducible rfl)))
                (try simp only [List.getElem_toArray, List.getElem_cons_zero, List.getElem_cons_succ, Act.put, List.setIfInBounds_toArray, List.set_cons_zero, List.set_cons_succ])
                refine wpAnyH_go (i := 4) (v := ?v14_4) rfl (by kernel_rfl) (by kernel_rfl) (by kernel_rfl) (fun _ _ _ h => h) (by rfl) ?hy14_4 (by assumption) ?rest14_4
                case hy14_4 => (intro w_ hSw; (try dsimp only at hSw); go_simp; (try (with_reducible rfl)))
                (try simp only [List.getElem_toArray, List.getElem_cons_zero, List.getElem_cons_succ, Act.put, List.setIfInBounds_toArray, List.set_cons_zero, List.set_cons_succ])
                refine wpAnyH_ready (rs := [5]) (by kernel_rfl) (by simp) ?_
                refine AllReadyH.cons rfl (fun K hK => ?_) AllReadyH.nil
                go_simp
                (refine (unhide HQN _).mono ?_; rintro e w' ⟨rfl, rfl⟩)
                (try (go_wp2_with fail))
                refine hK.out _ _ ?_ (fun hHeld => ?_)
                · exact (keep_ofP bel)
                clear hK K
                (try simp only [List.getElem_toArray, List.getElem_cons_zero, List.getElem_cons_succ, Act.put, List.setIfInBounds_toArray, List.set_cons_zero, List.set_cons_succ])
                refine wpAnyH_go (i := 6) (v := ?v14_6) rfl (by kernel_rfl) (by kernel_rfl) (by kernel_rfl) (fun _ _ _ h => h) (by rfl) ?hy14_6 (by assumption) ?rest14_6
                case hy14_6 => (intro w_ hSw; (try dsimp only at hSw); go_simp; (try (with_reducible rfl)))
                (try simp only [List.getElem_toArray, List.getElem_cons_zero, List.getElem_cons_succ, Act.put, List.setIfInBounds_toArray, List.set_cons_zero, List.set_cons_succ])
                refine wpAnyH_go (i := 7) (v := ?v14_7) rfl (by kernel_rfl) (by kernel_rfl) (by kernel_rfl) (fun _ _ _ h => h) (by rfl) ?hy14_7 (by assumption) ?rest14_7
                case hy14_7 => (intro w_ hSw; (try dsimp only at hSw); go_simp; (try (with_reducible rfl)))
                (try simp only [List.getElem_toArray, List.getElem_cons_zero, List.getElem_cons_succ, Act.put, List.setIfInBounds_toArray, List.set_cons_zero, List.set_cons_succ])
                refine wpAnyH_go (i := 8) (v := ?v14_8) rfl (by kernel_rfl) (by kernel_rfl) (by kernel_rfl) (fun _ _ _ h => h) (by rfl) ?hy14_8 (by assumption) ?rest14_8
                case hy14_8 => (intro w_ hSw; (try dsimp only at hSw); go_simp; (try (with_reducible rfl)))
                (try simp only [List.getElem_toArray, List.getElem_cons_zero, List.getElem_cons_succ, Act.put, List.setIfInBounds_toArray, List.set_cons_zero, List.set_cons_succ])
                refine wpAnyH_go (i := 9) (v := ?v14_9) rfl (by kernel_rfl) (by kernel_rfl) (by kernel_rfl) (fun _ _ _ h => h) (by rfl) ?hy14_9 (by assumption) ?rest14_9
                case hy14_9 => (intro w_ hSw; (try dsimp only at hSw); go_simp; (try (with_reducible rfl)))
                (try simp only [List.getElem_toArray, List.getElem_cons_zero, List.getElem_cons_succ, Act.put, List.setIfInBounds_toArray, List.set_cons_zero, List.set_cons_succ])
                refine wpAnyH_go (i := 10) (v := ?v14_10) rfl (by kernel_rfl) (by kernel_rfl) (by kernel_rfl) (fun _ _ _ h => h) (by rfl) ?hy14_10 (by assumption) ?rest14_10
                case hy14_10 => (intro w_ hSw; (try dsimp only at hSw); go_simp; (try (with_reducible rfl)))
                (try simp only [List.getElem_toArray, List.getElem_cons_zero, List.getElem_cons_succ, Act.put, List.setIfInBounds_toArray, List.set_cons_zero, List.set_cons_succ])
                refine wpAnyH_go (i := 11) (v := ?v14_11) rfl (by kernel_rfl) (by kernel_rfl) (by kernel_rfl) (fun _ _ _ h => h) (by rfl) ?hy14_11 (by assumption) ?rest14_11
                case hy14_11 => (intro w_ hSw; (try dsimp only at hSw); go_simp; (try (with_reducible rfl)))
                (try simp only [List.getElem_toArray, List.getElem_cons_zero, List.getElem_cons_succ, Act.put, List.setIfInBounds_toArray, List.set_cons_zero, List.set_cons_succ])
                refine wpAnyH_go (i := 12) (v := ?v14_12) rfl (by kernel_rfl) (by kernel_rfl) (by kernel_rfl) (fun _ _ _ h => h) (by rfl) ?hy14_12 (by assumption) ?rest14_12
                case hy14_12 => (intro w_ hSw; (try dsimp only at hSw); go_simp; (try (with_reducible rfl)))
                (try simp only [List.getElem_toArray, List.getElem_cons_zero, List.getElem_cons_succ, Act.put, List.setIfInBounds_toArray, List.set_cons_zero, List.set_cons_succ])
                refine wpAnyH_ready (rs := [13]) (by kernel_rfl) (by simp) ?_
                refine AllReadyH.cons rfl (fun K hK => ?_) AllReadyH.nil
                go_simp
                (have hq := (‹_ ∧ _ ∧ Below _ _ _›).2.2; refine (s_CardOk d f _ _ _ ss _ ?_).mono ?_; exact (hs0B.below hq).more hq.size; rw [hck]; rintro e w2 ⟨rfl, hb2⟩)
                (try (go_wp2_with fail))
                refine hK.out _ _ ?_ (fun hHeld => ?_)
                · exact (keep_ofP bel)
                clear hK K
                (try simp only [List.getElem_toArray, List.getElem_cons_zero, List.getElem_cons_succ, Act.put, List.setIfInBounds_toArray, List.set_cons_zero, List.set_cons_succ])
                refine wpAnyH_go (i := 14) (v := ?v14_14) rfl (by kernel_rfl) (by kernel_rfl) (by kernel_rfl) (fun _ _ _ h => h) (by rfl) ?hy14_14 (by assumption) ?rest14_14
                case hy14_14 => (intro w_ hSw; (try dsimp only at hSw); go_simp; (try (with_reducible rfl)))
                (try simp only [List.getElem_toArray, List.getElem_cons_zero, List.getElem_cons_succ, Act.put, List.setIfInBounds_toArray, List.set_cons_zero, List.set_cons_succ])
                refine wpAnyH_go (i := 15) (v := ?v14_15) rfl (by kernel_rfl) (by kernel_rfl) (by kernel_rfl) (fun _ _ _ h => h) (by rfl) ?hy14_15 (by assumption) ?rest14_15
                case hy14_15 => (intro w_ hSw; (try dsimp only at hSw); go_simp; (try (with_reducible rfl)))
                (try simp only [List.getElem_toArray, List.getElem_cons_zero, List.getElem_cons_succ, Act.put, List.setIfInBounds_toArray, List.set_cons_zero, List.set_cons_succ])
                refine wpAnyH_go (i := 16) (v := ?v14_16) rfl (by kernel_rfl) (by kernel_rfl) (by kernel_rfl) (fun _ _ _ h => h) (by rfl) ?hy14_16 (by assumption) ?rest14_16
                case hy14_16 => (intro w_ hSw; (try dsimp only at hSw); go_simp; (try (with_reducible rfl)))
                (try simp only [List.getElem_toArray, List.getElem_cons_zero, List.getElem_cons_succ, Act.put, List.setIfInBounds_toArray, List.set_cons_zero, List.set_cons_succ])
                refine wpAnyH_go (i := 17) (v := ?v14_17) rfl (by kernel_rfl) (by kernel_rfl) (by kernel_rfl) (fun _ _ _ h => h) (by rfl) ?hy14_17 (by assumption) ?rest14_17
                case hy14_17 => (intro w_ hSw; (try dsimp only at hSw); go_simp; (try (with_reducible rfl)))
                (try simp only [List.getElem_toArray, List.getElem_cons_zero, List.getElem_cons_succ, Act.put, List.setIfInBounds_toArray, List.set_cons_zero, List.set_cons_succ])
                refine wpAnyH_go (i := 18) (v := ?v14_18) rfl (by kernel_rfl) (by kernel_rfl) (by kernel_rfl) (fun _ _ _ h => h) (by rfl) ?hy14_18 (by assumption) ?rest14_18
                case hy14_18 => (intro w_ hSw; (try dsimp only at hSw); go_simp; (try (with_reducible rfl)))
                (try simp only [List.getElem_toArray, List.getElem_cons_zero, List.getElem_cons_succ, Act.put, List.setIfInBounds_toArray, List.set_cons_zero, List.set_cons_succ])
                refine wpAnyH_go (i := 19) (v := ?v14_19) rfl (by kernel_rfl) (by kernel_rfl) (by kernel_rfl) (fun _ _ _ h => h) (by rfl) ?hy14_19 (by assumption) ?rest14_19
                case hy14_19 => (intro w_ hSw; (try dsimp only at hSw); go_simp; (try (with_reducible rfl)))
                (try simp only [List.getElem_toArray, List.getElem_cons_zero, List.getElem_cons_succ, Act.put, List.setIfInBounds_toArray, List.set_cons_zero, List.set_cons_succ])
                refine wpAnyH_go (i := 20) (v := ?v14_20) rfl (by kernel_rfl) (by kernel_rfl) (by kernel_rfl) (fun _ _ _ h => h) (by rfl) ?hy14_20 (by assumption) ?rest14_20
                case hy14_20 => (intro w_ hSw; (try dsimp only at hSw); go_simp; (try (with_reducible rfl)))
                (try simp only [List.getElem_toArray, List.getElem_cons_zero, List.getElem_cons_succ, Act.put, List.setIfInBounds_toArray, List.set_cons_zero, List.set_cons_succ])
                refine wpAnyH_go (i := 21) (v := ?v14_21) rfl (by kernel_rfl) (by kernel_rfl) (by kernel_rfl) (fun _ _ _ h => h) (by rfl) ?hy14_21 (by assumption) ?rest14_21
                case hy14_21 => (intro w_ hSw; (try dsimp only at hSw); go_simp; (try (with_reducible rfl)))
                (try simp only [List.getElem_toArray, List.getElem_cons_zero, List.getElem_cons_succ, Act.put, List.setIfInBounds_toArray, List.set_cons_zero, List.set_cons_succ])
                refine wpAnyH_go (i := 22) (v := ?v14_22) rfl (by kernel_rfl) (by kernel_rfl) (by kernel_rfl) (fun _ _ _ h => h) (by rfl) ?hy14_22 (by assumption) ?rest14_22
                case hy14_22 => (intro w_ hSw; (try dsimp only at hSw); go_simp; (try (with_reducible rfl)))
                (try simp only [List.getElem_toArray, List.getElem_cons_zero, List.getElem_cons_succ, Act.put, List.setIfInBounds_toArray, List.set_cons_zero, List.set_cons_succ])
                refine wpAnyH_go (i := 23) (v := ?v14_23) rfl (by kernel_rfl) (by kernel_rfl) (by kernel_rfl) (fun _ _ _ h => h) (by rfl) ?hy14_23 (by assumption) ?rest14_23
                case hy14_23 => (intro w_ hSw; (try dsimp only at hSw); go_simp; (try (with_reducible rfl)))
                (try simp only [List.getElem_toArray, List.getElem_cons_zero, List.getElem_cons_succ, Act.put, List.setIfInBounds_toArray, List.set_cons_zero, List.set_cons_succ])
                refine wpAnyH_go (i := 24) (v := ?v14_24) rfl (by kernel_rfl) (by kernel_rfl) (by kernel_rfl) (fun _ _ _ h => h) (by rfl) ?hy14_24 (by assumption) ?rest14_24
                case hy14_24 => (intro w_ hSw; (try dsimp only at hSw); go_simp; (try (with_reducible rfl)))
                (try simp only [List.getElem_toArray, List.getElem_cons_zero, List.getElem_cons_succ, Act.put, List.setIfInBounds_toArray, List.set_cons_zero, List.set_cons_succ])
                refine wpAnyH_go (i := 25) (v := ?v14_25) rfl (by kernel_rfl) (by kernel_rfl) (by kernel_rfl) (fun _ _ _ h => h) (by rfl) ?hy14_25 (by assumption) ?rest14_25
                case hy14_25 => (intro w_ hSw; (try dsimp only at hSw); go_simp; (try (with_reducible rfl)))
                (try simp only [List.getElem_toArray, List.getElem_cons_zero, List.getElem_cons_succ, Act.put, List.setIfInBounds_toArray, List.set_cons_zero, List.set_cons_succ])
                refine wpAnyH_go (i := 26) (v := ?v14_26) rfl (by kernel_rfl) (by kernel_rfl) (by kernel_rfl) (fun _ _ _ h => h) (by rfl) ?hy14_26 (by assumption) ?rest14_26
                case hy14_26 => (intro w_ hSw; (try dsimp only at hSw); go_simp; (try (with_reducible rfl)))
                (try simp only [List.getElem_toArray, List.getElem_cons_zero, List.getElem_cons_succ, Act.put, List.setIfInBounds_toArray, List.set_cons_zero, List.set_cons_succ])
                refine wpAnyH_go (i := 27) (v := ?v14_27) rfl (by kernel_rfl) (by kernel_rfl) (by kernel_rfl) (fun _ _ _ h => h) (by rfl) ?hy14_27 (by assumption) ?rest14_27
                case hy14_27 => (intro w_ hSw; (try dsimp only at hSw); go_simp; (try (with_reducible rfl)))
                (try simp only [List.getElem_toArray, List.getElem_cons_zero, List.getElem_cons_succ, Act.put, List.setIfInBounds_toArray, List.set_cons_zero, List.set_cons_succ])
                refine wpAnyH_go (i := 28) (v := ?v14_28) rfl (by kernel_rfl) (by kernel_rfl) (by kernel_rfl) (fun _ _ _ h => h) (by rfl) ?hy14_28 (by assumption) ?rest14_28
                case hy14_28 => (intro w_ hSw; (try dsimp only at hSw); go_simp; (try (with_reducible rfl)))
                (try simp only [List.getElem_toArray, List.getElem_cons_zero, List.getElem_cons_succ, Act.put, List.setIfInBounds_toArray, List.set_cons_zero, List.set_cons_succ])
                refine wpAnyH_go (i := 29) (v := ?v14_29) rfl (by kernel_rfl) (by kernel_rfl) (by kernel_rfl) (fun _ _ _ h => h) (by rfl) ?hy14_29 (by assumption) ?rest14_29
                case hy14_29 => (intro w_ hSw; (try dsimp only at hSw); go_simp; (try (with_reducible rfl)))
                (try simp only [List.getElem_toArray, List.getElem_cons_zero, List.getElem_cons_succ, Act.put, List.setIfInBounds_toArray, List.set_cons_zero, List.set_cons_succ])
                refine wpAnyH_go (i := 30) (v := ?v14_30) rfl (by kernel_rfl) (by kernel_rfl) (by kernel_rfl) (fun _ _ _ h => h) (by rfl) ?hy14_30 (by assumption) ?rest14_30
                case hy14_30 => (intro w_ hSw; (try dsimp only at hSw); go_simp; (try (with_reducible rfl)))
                (try simp only [List.getElem_toArray, List.getElem_cons_zero, List.getElem_cons_succ, Act.put, List.setIfInBounds_toArray, List.set_cons_zero, List.set_cons_succ])
                refine wpAnyH_go (i := 31) (v := ?v14_31) rfl (by kernel_rfl) (by kernel_rfl) (by kernel_rfl) (fun _ _ _ h => h) (by rfl) ?hy14_31 (by assumption) ?rest14_31
                case hy14_31 => (intro w_ hSw; (try dsimp only at hSw); go_simp; (try (with_reducible rfl)))
                (try simp only [List.getElem_toArray, List.getElem_cons_zero, List.getElem_cons_succ, Act.put, List.setIfInBounds_toArray, List.set_cons_zero, List.set_cons_succ])
                refine wpAnyH_go (i := 32) (v := ?v14_32) rfl (by kernel_rfl) (by kernel_rfl) (by kernel_rfl) (fun _ _ _ h => h) (by rfl) ?hy14_32 (by assumption) ?rest14_32
                case hy14_32 => (intro w_ hSw; (try dsimp only at hSw); go_simp; (try (with_reducible rfl)))
                (try simp only [List.getElem_toArray, List.getElem_cons_zero, List.getElem_cons_succ, Act.put, List.setIfInBounds_toArray, List.set_cons_zero, List.set_cons_succ])
                refine wpAnyH_go (i := 33) (v := ?v14_33) rfl (by kernel_rfl) (by kernel_rfl) (by kernel_rfl) (fun _ _ _ h => h) (by rfl) ?hy14_33 (by assumption) ?rest14_33
                case hy14_33 => (intro w_ hSw; (try dsimp only at hSw); go_simp; (try (with_reducible rfl)))
                (try simp only [List.getElem_toArray, List.getElem_cons_zero, List.getElem_cons_succ, Act.put, List.setIfInBounds_toArray, List.set_cons_zero, List.set_cons_succ])
                refine wpAnyH_done (by kernel_rfl) ?_ _
                refine NoPanic.normal ?_
                all_goals (
                  go_wp2
                  go_ret
                  exact ⟨ret_bool HF.out.symm, hb.trans ((hbW.trans (Below.mono (by first | exact hb2 | exact (Below.refl _ _).drew.trans hb2 | exact below_drewN hb2 _ | exact (below_drewN (Below.refl _ _) _).trans hb2 | exact bel) hq2)).mono hzr)⟩)
            · have HF := Lib.hid (catOk_no (unhide HKP) (by rw [itGood_j HK.out HX.out HXP.out]; simp [nmLe, ← HNQ.out, hl1]))
              have hqn := fun W => s_NameOk nm W hnm
              simp only [hnok] at hqn
              have HQN := hide hqn
              clear hqn
              go_wp2
              have hs0 := hss
              obtain ⟨w0, hw0⟩ : ∃ W, W = wr := ⟨_, rfl⟩
              have hbW : Below wr.heap.size wr w0 := by rw [hw0]; exact Below.refl _ _
              rw [← hw0] at hs0 hc0 hc1 hc2 hc3 ⊢
              rw [← hw0] at hpc
              have hq2 : wr.heap.size ≤ w0.heap.size := hbW.size
              have hq1 : (ad.add (j * 4)).block < w0.heap.size := by rw [block_of_add]; omega
              have hpq2 : (ad.add (K * 4)).block < w0.heap.size := (by rw [block_of_add]; omega)
              clear hw0
              have hs0B := hs0.more (B' := w0.heap.size) (by omega)
              refine wp_region_noPanic ?_
              refine wp_region_held_drew (S := (fun W => (∀ p : Addr, p.block < w0.heap.size → W.cell? p = w0.cell? p) ∧ (∀ p : Addr, p.block < w0.heap.size → W.frozen? p = w0.frozen? p) ∧ Below w0.heap.size w0 W)) (by kernel_rfl) ?_ (fun hHeld => ?_)
              · exact (keep_ofP bel)
              refine wpAnyH_go (i := 0) (v := ?v15_0) rfl (by kernel_rfl) (by kernel_rfl) (by kernel_rfl) (fun _ _ _ h => h) (by rfl) ?hy15_0 (by assumption) ?rest15_0
              case hy15_0 => (intro w_ hSw; (try dsimp only at hSw); go_simp; (try (with_reducible rfl)))
              (try simp only [List.getElem_toArray, List.getElem_cons_zero, Act.put, List.setIfInBounds_toArray, List.set_cons_zero, List.set_cons_succ])
              refine wpAnyH_go (i := 1) (v := ?v15_1) rfl (by kernel_rfl) (by kernel_rfl) (by kernel_rfl) (fun _ _ _ h => h) (by rfl) ?hy15_1 (by assumption) ?rest15_1
              case hy15_1 => (intro w_ hSw; (try dsimp only at hSw); go_simp; (try (with_reducible rfl)))
              (try simp only [List.getElem_toArray, List.getElem_cons_zero, List.getElem_cons_succ, Act.put, List.setIfInBounds_toArray, List.set_cons_zero, List.set_cons_succ])
              refine wpAnyH_go (i := 2) (v := ?v15_2) rfl (by kernel_rfl) (by kernel_rfl) (by kernel_rfl) (fun _ _ _ h => h) (by rfl) ?hy15_2 (by assumption) ?rest15_2
              case hy15_2 => (intro w_ hSw; (try dsimp only at hSw); go_simp; (try (with_reducible rfl)))
              (try simp only [List.getElem_toArray, List.getElem_cons_zero, List.getElem_cons_succ, Act.put, List.setIfInBounds_toArray, List.set_cons_zero, List.set_cons_succ])
              refine wpAnyH_go (i := 3) (v := ?v15_3) rfl (by kernel_rfl) (by kernel_rfl) (by kernel_rfl) (fun _ _ _ h => h) (by rfl) ?hy15_3 (by assumption) ?rest15_3
              case hy15_3 => (intro w_ hSw; (try dsimp only at hSw); go_simp; (try (with_reducible rfl)))
              (try simp only [List.getElem_toArray, List.getElem_cons_zero, List.getElem_cons_succ, Act.put, List.setIfInBounds_toArray, List.set_cons_zero, List.set_cons_succ])
              refine wpAnyH_go (i := 4) (v := ?v15_4) rfl (by kernel_rfl) (by kernel_rfl) (by kernel_rfl) (fun _ _ _ h => h) (by rfl) ?hy15_4 (by assumption) ?rest15_4
              case hy15_4 => (intro w_ hSw; (try dsimp only at hSw); go_simp; (try (with_reducible rfl)))
              (try simp only [List.getElem_toArray, List.getElem_cons_zero, List.getElem_cons_succ, Act.put, List.setIfInBounds_toArray, List.set_cons_zero, List.set_cons_succ])
              refine wpAnyH_ready (rs := [5]) (by kernel_rfl) (by simp) ?_
              refine AllReadyH.cons rfl (fun K hK => ?_) AllReadyH.nil
              go_simp
              (refine (unhide HQN _).mono ?_; rintro e w' ⟨rfl, rfl⟩)
              (try (go_wp2_with fail))
              refine hK.out _ _ ?_ (fun hHeld => ?_)
              · exact (keep_ofP bel)
              clear hK K
              (try simp only [List.getElem_toArray, List.getElem_cons_zero, List.getElem_cons_succ, Act.put, List.setIfInBounds_toArray, List.set_cons_zero, List.set_cons_succ])
              refine wpAnyH_go (i := 6) (v := ?v15_6) rfl (by kernel_rfl) (by kernel_rfl) (by kernel_rfl) (fun _ _ _ h => h) (by rfl) ?hy15_6 (by assumption) ?rest15_6
              case hy15_6 => (intro w_ hSw; (try dsimp only at hSw); go_simp; (try (with_reducible rfl)))
              (try simp only [List.getElem_toArray, List.getElem_cons_zero, List.getElem_cons_succ, Act.put, List.setIfInBounds_toArray, List.set_cons_zero, List.set_cons_succ])
              refine wpAnyH_go (i := 7) (v := ?v15_7) rfl (by kernel_rfl) (by kernel_rfl) (by kernel_rfl) (fun _ _ _ h => h) (by rfl) ?hy15_7 (by assumption) ?rest15_7
              case hy15_7 => (intro w_ hSw; (try dsimp only at hSw); go_simp; (try (with_reducible rfl)))
              (try simp only [List.getElem_toArray, List.getElem_cons_zero, List.getElem_cons_succ, Act.put, List.setIfInBounds_toArray, List.set_cons_zero, List.set_cons_succ])
              refine wpAnyH_go (i := 8) (v := ?v15_8) rfl (by kernel_rfl) (by kernel_rfl) (by kernel_rfl) (fun _ _ _ h => h) (by rfl) ?hy15_8 (by assumption) ?rest15_8
              case hy15_8 => (intro w_ hSw; (try dsimp only at hSw); go_simp; (try (with_reducible rfl)))
              (try simp only [List.getElem_toArray, List.getElem_cons_zero, List.getElem_cons_succ, Act.put, List.setIfInBounds_toArray, List.set_cons_zero, List.set_cons_succ])
              refine wpAnyH_go (i := 9) (v := ?v15_9) rfl (by kernel_rfl) (by kernel_rfl) (by kernel_rfl) (fun _ _ _ h => h) (by rfl) ?hy15_9 (by assumption) ?rest15_9
              case hy15_9 => (intro w_ hSw; (try dsimp only at hSw); go_simp; (try (with_reducible rfl)))
              (try simp only [List.getElem_toArray, List.getElem_cons_zero, List.getElem_cons_succ, Act.put, List.setIfInBounds_toArray, List.set_cons_zero, List.set_cons_succ])
              refine wpAnyH_go (i := 10) (v := ?v15_10) rfl (by kernel_rfl) (by kernel_rfl) (by kernel_rfl) (fun _ _ _ h => h) (by rfl) ?hy15_10 (by assumption) ?rest15_10
              case hy15_10 => (intro w_ hSw; (try dsimp only at hSw); go_simp; (try (with_reducible rfl)))
              (try simp only [List.getElem_toArray, List.getElem_cons_zero, List.getElem_cons_succ, Act.put, List.setIfInBounds_toArray, List.set_cons_zero, List.set_cons_succ])
              refine wpAnyH_go (i := 11) (v := ?v15_11) rfl (by kernel_rfl) (by kernel_rfl) (by kernel_rfl) (fun _ _ _ h => h) (by rfl) ?hy15_11 (by assumption) ?rest15_11
              case hy15_11 => (intro w_ hSw; (try dsimp only at hSw); go_simp; (try (with_reducible rfl)))
              (try simp only [List.getElem_toArray, List.getElem_cons_zero, List.getElem_cons_succ, Act.put, List.setIfInBounds_toArray, List.set_cons_zero, List.set_cons_succ])
              refine wpAnyH_go (i := 12) (v := ?v15_12) rfl (by kernel_rfl) (by kernel_rfl) (by kernel_rfl) (fun _ _ _ h => h) (by rfl) ?hy15_12 (by assumption) ?rest15_12
              case hy15_12 => (intro w_ hSw; (try dsimp only at hSw); go_simp; (try (with_reducible rfl)))
              (try simp only [List.getElem_toArray, List.getElem_cons_zero, List.getElem_cons_succ, Act.put, List.setIfInBounds_toArray, List.set_cons_zero, List.set_cons_succ])
              refine wpAnyH_ready (rs := [13]) (by kernel_rfl) (by simp) ?_
              refine AllReadyH.cons rfl (fun K hK => ?_) AllReadyH.nil
              go_simp
              (have hq := (‹_ ∧ _ ∧ Below _ _ _›).2.2; refine (s_CardOk d f _ _ _ ss _ ?_).mono ?_; exact (hs0B.below hq).more hq.size; rw [hck]; rintro e w2 ⟨rfl, hb2⟩)
              (try (go_wp2_with fail))
              refine hK.out _ _ ?_ (fun hHeld => ?_)
              · exact (keep_ofP bel)
              clear hK K
              (try simp only [List.getElem_toArray, List.getElem_cons_zero, List.getElem_cons_succ, Act.put, List.setIfInBounds_toArray, List.set_cons_zero, List.set_cons_succ])
              refine wpAnyH_go (i := 14) (v := ?v15_14) rfl (by kernel_rfl) (by kernel_rfl) (by kernel_rfl) (fun _ _ _ h => h) (by rfl) ?hy15_14 (by assumption) ?rest15_14
              case hy15_14 => (intro w_ hSw; (try dsimp only at hSw); go_simp; (try (with_reducible rfl)))
              (try simp only [List.getElem_toArray, List.getElem_cons_zero, List.getElem_cons_succ, Act.put, List.setIfInBounds_toArray, List.set_cons_zero, List.set_cons_succ])
              refine wpAnyH_go (i := 15) (v := ?v15_15) rfl (by kernel_rfl) (by kernel_rfl) (by kernel_rfl) (fun _ _ _ h => h) (by rfl) ?hy15_15 (by assumption) ?rest15_15
              case hy15_15 => (intro w_ hSw; (try dsimp only at hSw); go_simp; (try (with_reducible rfl)))
              (try simp only [List.getElem_toArray, List.getElem_cons_zero, List.getElem_cons_succ, Act.put, List.setIfInBounds_toArray, List.set_cons_zero, List.set_cons_succ])
              refine wpAnyH_go (i := 16) (v := ?v15_16) rfl (by kernel_rfl) (by kernel_rfl) (by kernel_rfl) (fun _ _ _ h => h) (by rfl) ?hy15_16 (by assumption) ?rest15_16
              case hy15_16 => (intro w_ hSw; (try dsimp only at hSw); go_simp; (try (with_reducible rfl)))
              (try simp only [List.getElem_toArray, List.getElem_cons_zero, List.getElem_cons_succ, Act.put, List.setIfInBounds_toArray, List.set_cons_zero, List.set_cons_succ])
              refine wpAnyH_go (i := 17) (v := ?v15_17) rfl (by kernel_rfl) (by kernel_rfl) (by kernel_rfl) (fun _ _ _ h => h) (by rfl) ?hy15_17 (by assumption) ?rest15_17
              case hy15_17 => (intro w_ hSw; (try dsimp only at hSw); go_simp; (try (with_reducible rfl)))
              (try simp only [List.getElem_toArray, List.getElem_cons_zero, List.getElem_cons_succ, Act.put, List.setIfInBounds_toArray, List.set_cons_zero, List.set_cons_succ])
              refine wpAnyH_go (i := 18) (v := ?v15_18) rfl (by kernel_rfl) (by kernel_rfl) (by kernel_rfl) (fun _ _ _ h => h) (by rfl) ?hy15_18 (by assumption) ?rest15_18
              case hy15_18 => (intro w_ hSw; (try dsimp only at hSw); go_simp; (try (with_reducible rfl)))
              (try simp only [List.getElem_toArray, List.getElem_cons_zero, List.getElem_cons_succ, Act.put, List.setIfInBounds_toArray, List.set_cons_zero, List.set_cons_succ])
              refine wpAnyH_go (i := 19) (v := ?v15_19) rfl (by kernel_rfl) (by kernel_rfl) (by kernel_rfl) (fun _ _ _ h => h) (by rfl) ?hy15_19 (by assumption) ?rest15_19
              case hy15_19 => (intro w_ hSw; (try dsimp only at hSw); go_simp; (try (with_reducible rfl)))
              (try simp only [List.getElem_toArray, List.getElem_cons_zero, List.getElem_cons_succ, Act.put, List.setIfInBounds_toArray, List.set_cons_zero, List.set_cons_succ])
              refine wpAnyH_go (i := 20) (v := ?v15_20) rfl (by kernel_rfl) (by kernel_rfl) (by kernel_rfl) (fun _ _ _ h => h) (by rfl) ?hy15_20 (by assumption) ?rest15_20
              case hy15_20 => (intro w_ hSw; (try dsimp only at hSw); go_simp; (try (with_reducible rfl)))
              (try simp only [List.getElem_toArray, List.getElem_cons_zero, List.getElem_cons_succ, Act.put, List.setIfInBounds_toArray, List.set_cons_zero, List.set_cons_succ])
              refine wpAnyH_go (i := 21) (v := ?v15_21) rfl (by kernel_rfl) (by kernel_rfl) (by kernel_rfl) (fun _ _ _ h => h) (by rfl) ?hy15_21 (by assumption) ?rest15_21
              case hy15_21 => (intro w_ hSw; (try dsimp only at hSw); go_simp; (try (with_reducible rfl)))
              (try simp only [List.getElem_toArray, List.getElem_cons_zero, List.getElem_cons_succ, Act.put, List.setIfInBounds_toArray, List.set_cons_zero, List.set_cons_succ])
              refine wpAnyH_go (i := 22) (v := ?v15_22) rfl (by kernel_rfl) (by kernel_rfl) (by kernel_rfl) (fun _ _ _ h => h) (by rfl) ?hy15_22 (by assumption) ?rest15_22
              case hy15_22 => (intro w_ hSw; (try dsimp only at hSw); go_simp; (try (with_reducible rfl)))
              (try simp only [List.getElem_toArray, List.getElem_cons_zero, List.getElem_cons_succ, Act.put, List.setIfInBounds_toArray, List.set_cons_zero, List.set_cons_succ])
              refine wpAnyH_go (i := 23) (v := ?v15_23) rfl (by kernel_rfl) (by kernel_rfl) (by kernel_rfl) (fun _ _ _ h => h) (by rfl) ?hy15_23 (by assumption) ?rest15_23
              case hy15_23 => (intro w_ hSw; (try dsimp only at hSw); go_simp; (try (with_reducible rfl)))
              (try simp only [List.getElem_toArray, List.getElem_cons_zero, List.getElem_cons_succ, Act.put, List.setIfInBounds_toArray, List.set_cons_zero, List.set_cons_succ])
              refine wpAnyH_go (i := 24) (v := ?v15_24) rfl (by kernel_rfl) (by kernel_rfl) (by kernel_rfl) (fun _ _ _ h => h) (by rfl) ?hy15_24 (by assumption) ?rest15_24
              case hy15_24 => (intro w_ hSw; (try dsimp only at hSw); go_simp; (try (with_reducible rfl)))
              (try simp only [List.getElem_toArray, List.getElem_cons_zero, List.getElem_cons_succ, Act.put, List.setIfInBounds_toArray, List.set_cons_zero, List.set_cons_succ])
              refine wpAnyH_go (i := 25) (v := ?v15_25) rfl (by kernel_rfl) (by kernel_rfl) (by kernel_rfl) (fun _ _ _ h => h) (by rfl) ?hy15_25 (by assumption) ?rest15_25
              case hy15_25 => (intro w_ hSw; (try dsimp only at hSw); go_simp; (try (with_reducible rfl)))
              (try simp only [List.getElem_toArray, List.getElem_cons_zero, List.getElem_cons_succ, Act.put, List.setIfInBounds_toArray, List.set_cons_zero, List.set_cons_succ])
              refine wpAnyH_go (i := 26) (v := ?v15_26) rfl (by kernel_rfl) (by kernel_rfl) (by kernel_rfl) (fun _ _ _ h => h) (by rfl) ?hy15_26 (by assumption) ?rest15_26
              case hy15_26 => (intro w_ hSw; (try dsimp only at hSw); go_simp; (try (with_reducible rfl)))
              (try simp only [List.getElem_toArray, List.getElem_cons_zero, List.getElem_cons_succ, Act.put, List.setIfInBounds_toArray, List.set_cons_zero, List.set_cons_succ])
              refine wpAnyH_go (i := 27) (v := ?v15_27) rfl (by kernel_rfl) (by kernel_rfl) (by kernel_rfl) (fun _ _ _ h => h) (by rfl) ?hy15_27 (by assumption) ?rest15_27
              case hy15_27 => (intro w_ hSw; (try dsimp only at hSw); go_simp; (try (with_reducible rfl)))
              (try simp only [List.getElem_toArray, List.getElem_cons_zero, List.getElem_cons_succ, Act.put, List.setIfInBounds_toArray, List.set_cons_zero, List.set_cons_succ])
              refine wpAnyH_go (i := 28) (v := ?v15_28) rfl (by kernel_rfl) (by kernel_rfl) (by kernel_rfl) (fun _ _ _ h => h) (by rfl) ?hy15_28 (by assumption) ?rest15_28
              case hy15_28 => (intro w_ hSw; (try dsimp only at hSw); go_simp; (try (with_reducible rfl)))
              (try simp only [List.getElem_toArray, List.getElem_cons_zero, List.getElem_cons_succ, Act.put, List.setIfInBounds_toArray, List.set_cons_zero, List.set_cons_succ])
              refine wpAnyH_go (i := 29) (v := ?v15_29) rfl (by kernel_rfl) (by kernel_rfl) (by kernel_rfl) (fun _ _ _ h => h) (by rfl) ?hy15_29 (by assumption) ?rest15_29
              case hy15_29 => (intro w_ hSw; (try dsimp only at hSw); go_simp; (try (with_reducible rfl)))
              (try simp only [List.getElem_toArray, List.getElem_cons_zero, List.getElem_cons_succ, Act.put, List.setIfInBounds_toArray, List.set_cons_zero, List.set_cons_succ])
              refine wpAnyH_go (i := 30) (v := ?v15_30) rfl (by kernel_rfl) (by kernel_rfl) (by kernel_rfl) (fun _ _ _ h => h) (by rfl) ?hy15_30 (by assumption) ?rest15_30
              case hy15_30 => (intro w_ hSw; (try dsimp only at hSw); go_simp; (try (with_reducible rfl)))
              (try simp only [List.getElem_toArray, List.getElem_cons_zero, List.getElem_cons_succ, Act.put, List.setIfInBounds_toArray, List.set_cons_zero, List.set_cons_succ])
              refine wpAnyH_go (i := 31) (v := ?v15_31) rfl (by kernel_rfl) (by kernel_rfl) (by kernel_rfl) (fun _ _ _ h => h) (by rfl) ?hy15_31 (by assumption) ?rest15_31
              case hy15_31 => (intro w_ hSw; (try dsimp only at hSw); go_simp; (try (with_reducible rfl)))
              (try simp only [List.getElem_toArray, List.getElem_cons_zero, List.getElem_cons_succ, Act.put, List.setIfInBounds_toArray, List.set_cons_zero, List.set_cons_succ])
              refine wpAnyH_go (i := 32) (v := ?v15_32) rfl (by kernel_rfl) (by kernel_rfl) (by kernel_rfl) (fun _ _ _ h => h) (by rfl) ?hy15_32 (by assumption) ?rest15_32
              case hy15_32 => (intro w_ hSw; (try dsimp only at hSw); go_simp; (try (with_reducible rfl)))
              (try simp only [List.getElem_toArray, List.getElem_cons_zero, List.getElem_cons_succ, Act.put, List.setIfInBounds_toArray, List.set_cons_zero, List.set_cons_succ])
              refine wpAnyH_go (i := 33) (v := ?v15_33) rfl (by kernel_rfl) (by kernel_rfl) (by kernel_rfl) (fun _ _ _ h => h) (by rfl) ?hy15_33 (by assumption) ?rest15_33
              case hy15_33 => (intro w_ hSw; (try dsimp only at hSw); go_simp; (try (with_reducible rfl)))
              (try simp only [List.getElem_toArray, List.getElem_cons_zero, List.getElem_cons_succ, Act.put, List.setIfInBounds_toArray, List.set_cons_zero, List.set_cons_succ])
              refine wpAnyH_done (by kernel_rfl) ?_ _
              refine NoPanic.normal ?_
              all_goals (
                go_wp2
                go_ret
                exact ⟨ret_bool HF.out.symm, hb.trans ((hbW.trans (Below.mono (by first | exact hb2 | exact (Below.refl _ _).drew.trans hb2 | exact below_drewN hb2 _ | exact (below_drewN (Below.refl _ _) _).trans hb2 | exact bel) hq2)).mono hzr)⟩)
    · have hjn : j = n := by omega
      subst hjn
      have hcat : catOk P = decide (j ≤ 20) := by
        unfold catOk
        rw [HL.out, HA.out]; rfl
      have HF := Lib.hid hcat
      clear hcat
      by_cases h20 : j ≤ 20
      · go_wp2
        go_ret
        exact ⟨ret_bool (by rw [HF.out]; simp [h20]; try omega), hb⟩
      · go_wp2
        go_ret
        exact ⟨ret_bool (by rw [HF.out]; simp [h20]; try omega), hb⟩
end Go.Proofs.YtdddglihomchfaaGreat
