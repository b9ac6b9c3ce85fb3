/- Contracts of the program's and the reference's functions (Item5i). -/
import Derived.Test.YtdddglihomchfaaGreatRows
import Derived.Test.YtdddglihomchfaaGreatQCi
import Derived.Test.YtdddglihomchfaaGreatQCd
namespace Go.Proofs.YtdddglihomchfaaGreat
open Go.ChangeShapes Go.WideShapes Go.ChangeAt Go.RowKit
set_option linter.unusedVariables false
set_option maxRecDepth 10000
theorem wpAnyH_skip {P : Program} {md : Region.Mode} {ops : Array Oper} {Q : Exit → Act → World → Prop} {S : World → Prop} {i : Nat} {oi : Oper} {fuel : Nat} {listed : Array Bool} {a : Act} {w : World} (hi : ops[i]? = some oi)
    (hs : Region.noSelect ops = true) (hf : Region.free md ops listed i = true) (hr : (Region.ready md ops listed).contains i = true)
    (hQ : ∀ c a w, Q (.panic c) (a.put oi.dst undef) w → Q (.panic c) a w) (hw : Region.wanted oi (yielded ops a.tmps) = false) (hS : S w)
    (h : wpAnyH P md ops Q S fuel (listed.setIfInBounds i true) (a.put oi.dst undef) w) : wpAnyH P md ops Q S (fuel + 1) listed a w :=
  wpAnyH_take hi hs hf hr hQ (Or.inr ⟨hw, rfl⟩) hS h
theorem wpAnyH_go {P : Program} {md : Region.Mode} {ops : Array Oper} {Q : Exit → Act → World → Prop} {S : World → Prop} {i : Nat} {oi : Oper} {v : Value} {fuel : Nat} {listed : Array Bool} {a : Act} {w : World} (hi : ops[i]? = some oi)
    (hs : Region.noSelect ops = true) (hf : Region.free md ops listed i = true) (hr : (Region.ready md ops listed).contains i = true)
    (hQ : ∀ c a w, Q (.panic c) (a.put oi.dst v) w → Q (.panic c) a w) (hw : Region.wanted oi (yielded ops a.tmps) = true) (hy : ∀ w, S w → (execOp a.eval oi).run P w = .ok (.value v) w) (hS : S w)
    (h : wpAnyH P md ops Q S fuel (listed.setIfInBounds i true) (a.put oi.dst v) w) : wpAnyH P md ops Q S (fuel + 1) listed a w :=
  wpAnyH_take hi hs hf hr hQ (Or.inl ⟨hw, hy⟩) hS h
theorem itGood_z {P : List PItem} {j : Nat} {x : PItem} (hj : j = 0) (h : P[j]? = some x) : itGood P j = (nameOk x.nm && cardOk x.d x.f x.ss) := by subst hj; exact itGood_0 h
theorem itGood_j {P : List PItem} {j k : Nat} {x y : PItem} (hj : j = k + 1) (h : P[j]? = some x) (h2 : P[k]? = some y) : itGood P j = ((nameOk x.nm && cardOk x.d x.f x.ss) && !nmLe x.nm y.nm) := by subst hj; exact itGood_s h h2
set_option maxHeartbeats 6400000 in
theorem i_CatalogOk (P : List PItem) (B : Nat) (A : Option Addr) (n c : Nat) (L : List RItem) (w : World) (hp : plI L = P) (hS : Items w B A n L) (hB : B ≤ w.heap.size) :
    Calls Tryz.prog 70 #[.slice A n c] w fun e w' => e = .returned (.bool (catOk P)) ∧ Below w.heap.size w w' := by
  have hn := hS.nb
  have hl : P.length = n := by rw [← hp, plI_len, hS.len]
  have HL := Lib.hid hl
  have HP := Lib.hid hp
  clear hl hp
  go_enter Tryz.func70, Tryz.ntmps70
  go_wp2
  go_loopw [3, 4, 7] (fun x y i wr => ∃ j : Nat, j ≤ n ∧ i = .int .i64 j ∧ Hid ((List.range j).all (itGood P) = true) ∧ Below w.heap.size w wr) (fun _ _ i _ => n - (intOf i).toNat)
  case atStart => exact ⟨0, Nat.zero_le _, rfl, by unfold Hid; simp, Below.refl _ _⟩
  case round =>
    obtain ⟨j, hj, rfl, HA, hb⟩ := hrel
    have hzr := hb.size
    by_cases hlt : j < n
    · have hSr := hS.below (hb.mono hB)
      obtain ⟨hk1, ad, rfl, hab, hc0, hc1, hc2, hc3, hss, hnm⟩ := hSr.at_ hlt
      have hx : P[j]? = some L[j].x := by rw [← HP.out]; exact plI_at hk1
      have HX := Lib.hid hx
      have hkP : j < P.length := by have := HL.out; omega
      have HKP := hide hkP
      clear hx hkP
      obtain ⟨nm, hnme⟩ : ∃ a, a = L[j].x.nm := ⟨_, rfl⟩
      obtain ⟨d, hde⟩ : ∃ a, a = L[j].x.d := ⟨_, rfl⟩
      obtain ⟨f, hfe⟩ : ∃ a, a = L[j].x.f := ⟨_, rfl⟩
      obtain ⟨ss, hse⟩ : ∃ a, a = L[j].x.ss := ⟨_, rfl⟩
      rw [← hnme] at hc0 hnm; rw [← hde] at hc1; rw [← hfe] at hc2; rw [← hse] at hc3 hss
      have hxx : L[j].x = ⟨nm, d, f, ss⟩ := by rw [hnme, hde, hfe, hse]
      rw [hxx] at HX
      generalize L[j].A = A0 at *
      generalize L[j].c = c0 at *
      clear hnme hde hfe hse hxx hk1
      cases hnok : nameOk nm
      · have HF := Lib.hid (catOk_no (unhide HKP) (by unfold itGood; rw [HX.out]; simp [hnok]))
        have hqn := fun W => i_NameOk nm W hnm
        simp only [hnok] at hqn
        have HQN := hide hqn
        clear hqn
        go_wp2
        have hk0 := blk_new wr (.cells #[.string nm, .int .i64 d, .int .i64 f, .slice A0 ss.length c0] 132)
        have hbW : Below wr.heap.size wr (wr.alloc (.cells #[.string nm, .int .i64 d, .int .i64 f, .slice A0 ss.length c0] 132)) := bel
        have hs0 := hss.alloc (by omega) (.cells #[.string nm, .int .i64 d, .int .i64 f, .slice A0 ss.length c0] 132)
        have hq1 : (ad.add (j * 4)).block < wr.heap.size := by rw [block_of_add]; omega
        generalize (wr.alloc (.cells #[.string nm, .int .i64 d, .int .i64 f, .slice A0 ss.length c0] 132)) = w0 at *
        obtain ⟨hy0, hy1, hy2, hy3, hyl⟩ := blk4 hk0
        have hq2 : wr.heap.size ≤ w0.heap.size := hbW.size
        have hs0B := hs0.more (B' := w0.heap.size) (by omega)
        refine wp_region_noPanic ?_
        refine wp_region_held_drew (S := (fun W => (∀ p : Addr, p.block < w0.heap.size → W.cell? p = w0.cell? p) ∧ (∀ p : Addr, p.block < w0.heap.size → W.frozen? p = w0.frozen? p) ∧ Below w0.heap.size w0 W)) (by kernel_rfl) ?_ (fun hHeld => ?_)
        · exact (keep_ofP bel)
        refine wpAnyH_go (i := 0) (v := ?v1_0) rfl (by kernel_rfl) (by kernel_rfl) (by kernel_rfl) (fun _ _ _ h => h) (by rfl) ?hy1_0 (by assumption) ?rest1_0
        case hy1_0 => (intro w_ hSw; (try dsimp only at hSw); go_simp; (try (with_reducible rfl)))
        (try simp only [List.getElem_toArray, List.getElem_cons_zero, Act.put, List.setIfInBounds_toArray, List.set_cons_zero, List.set_cons_succ])
        refine wpAnyH_go (i := 1) (v := ?v1_1) rfl (by kernel_rfl) (by kernel_rfl) (by kernel_rfl) (fun _ _ _ h => h) (by rfl) ?hy1_1 (by assumption) ?rest1_1
        case hy1_1 => (intro w_ hSw; (try dsimp only at hSw); go_simp; (try (with_reducible rfl)))
        (try simp only [List.getElem_toArray, List.getElem_cons_zero, List.getElem_cons_succ, Act.put, List.setIfInBounds_toArray, List.set_cons_zero, List.set_cons_succ])
        refine wpAnyH_ready (rs := [2]) (by kernel_rfl) (by simp) ?_
        refine AllReadyH.cons rfl (fun K hK => ?_) AllReadyH.nil
        go_simp
        (refine (unhide HQN _).mono ?_; rintro e w' ⟨rfl, rfl⟩)
        (try (go_wp2_with fail))
        refine hK.out _ _ ?_ (fun hHeld => ?_)
        · exact (keep_ofP bel)
        clear hK K
        (try simp only [List.getElem_toArray, List.getElem_cons_zero, List.getElem_cons_succ, Act.put, List.setIfInBounds_toArray, List.set_cons_zero, List.set_cons_succ])
        refine wpAnyH_go (i := 3) (v := ?v1_3) rfl (by kernel_rfl) (by kernel_rfl) (by kernel_rfl) (fun _ _ _ h => h) (by rfl) ?hy1_3 (by assumption) ?rest1_3
        case hy1_3 => (intro w_ hSw; (try dsimp only at hSw); go_simp; (try (with_reducible rfl)))
        (try simp only [List.getElem_toArray, List.getElem_cons_zero, List.getElem_cons_succ, Act.put, List.setIfInBounds_toArray, List.set_cons_zero, List.set_cons_succ])
        refine wpAnyH_go (i := 4) (v := ?v1_4) rfl (by kernel_rfl) (by kernel_rfl) (by kernel_rfl) (fun _ _ _ h => h) (by rfl) ?hy1_4 (by assumption) ?rest1_4
        case hy1_4 => (intro w_ hSw; (try dsimp only at hSw); go_simp; (try (with_reducible rfl)))
        (try simp only [List.getElem_toArray, List.getElem_cons_zero, List.getElem_cons_succ, Act.put, List.setIfInBounds_toArray, List.set_cons_zero, List.set_cons_succ])
        refine wpAnyH_skip (i := 5) rfl (by kernel_rfl) (by kernel_rfl) (by kernel_rfl) (fun _ _ _ h => h) (by rfl) (by assumption) ?_
        (try simp only [List.getElem_toArray, List.getElem_cons_zero, List.getElem_cons_succ, Act.put, List.setIfInBounds_toArray, List.set_cons_zero, List.set_cons_succ])
        refine wpAnyH_skip (i := 6) rfl (by kernel_rfl) (by kernel_rfl) (by kernel_rfl) (fun _ _ _ h => h) (by rfl) (by assumption) ?_
        (try simp only [List.getElem_toArray, List.getElem_cons_zero, List.getElem_cons_succ, Act.put, List.setIfInBounds_toArray, List.set_cons_zero, List.set_cons_succ])
        refine wpAnyH_skip (i := 7) rfl (by kernel_rfl) (by kernel_rfl) (by kernel_rfl) (fun _ _ _ h => h) (by rfl) (by assumption) ?_
        (try simp only [List.getElem_toArray, List.getElem_cons_zero, List.getElem_cons_succ, Act.put, List.setIfInBounds_toArray, List.set_cons_zero, List.set_cons_succ])
        refine wpAnyH_skip (i := 8) rfl (by kernel_rfl) (by kernel_rfl) (by kernel_rfl) (fun _ _ _ h => h) (by rfl) (by assumption) ?_
        (try simp only [List.getElem_toArray, List.getElem_cons_zero, List.getElem_cons_succ, Act.put, List.setIfInBounds_toArray, List.set_cons_zero, List.set_cons_succ])
        refine wpAnyH_skip (i := 9) rfl (by kernel_rfl) (by kernel_rfl) (by kernel_rfl) (fun _ _ _ h => h) (by rfl) (by assumption) ?_
        (try simp only [List.getElem_toArray, List.getElem_cons_zero, List.getElem_cons_succ, Act.put, List.setIfInBounds_toArray, List.set_cons_zero, List.set_cons_succ])
        refine wpAnyH_skip (i := 10) rfl (by kernel_rfl) (by kernel_rfl) (by kernel_rfl) (fun _ _ _ h => h) (by rfl) (by assumption) ?_
        (try simp only [List.getElem_toArray, List.getElem_cons_zero, List.getElem_cons_succ, Act.put, List.setIfInBounds_toArray, List.set_cons_zero, List.set_cons_succ])
        refine wpAnyH_skip (i := 11) rfl (by kernel_rfl) (by kernel_rfl) (by kernel_rfl) (fun _ _ _ h => h) (by rfl) (by assumption) ?_
        (try simp only [List.getElem_toArray, List.getElem_cons_zero, List.getElem_cons_succ, Act.put, List.setIfInBounds_toArray, List.set_cons_zero, List.set_cons_succ])
        refine wpAnyH_skip (i := 12) rfl (by kernel_rfl) (by kernel_rfl) (by kernel_rfl) (fun _ _ _ h => h) (by rfl) (by assumption) ?_
        (try simp only [List.getElem_toArray, List.getElem_cons_zero, List.getElem_cons_succ, Act.put, List.setIfInBounds_toArray, List.set_cons_zero, List.set_cons_succ])
        refine wpAnyH_skip (i := 13) rfl (by kernel_rfl) (by kernel_rfl) (by kernel_rfl) (fun _ _ _ h => h) (by rfl) (by assumption) ?_
        (try simp only [List.getElem_toArray, List.getElem_cons_zero, List.getElem_cons_succ, Act.put, List.setIfInBounds_toArray, List.set_cons_zero, List.set_cons_succ])
        refine wpAnyH_skip (i := 14) rfl (by kernel_rfl) (by kernel_rfl) (by kernel_rfl) (fun _ _ _ h => h) (by rfl) (by assumption) ?_
        (try simp only [List.getElem_toArray, List.getElem_cons_zero, List.getElem_cons_succ, Act.put, List.setIfInBounds_toArray, List.set_cons_zero, List.set_cons_succ])
        refine wpAnyH_skip (i := 15) rfl (by kernel_rfl) (by kernel_rfl) (by kernel_rfl) (fun _ _ _ h => h) (by rfl) (by assumption) ?_
        (try simp only [List.getElem_toArray, List.getElem_cons_zero, List.getElem_cons_succ, Act.put, List.setIfInBounds_toArray, List.set_cons_zero, List.set_cons_succ])
        refine wpAnyH_skip (i := 16) rfl (by kernel_rfl) (by kernel_rfl) (by kernel_rfl) (fun _ _ _ h => h) (by rfl) (by assumption) ?_
        (try simp only [List.getElem_toArray, List.getElem_cons_zero, List.getElem_cons_succ, Act.put, List.setIfInBounds_toArray, List.set_cons_zero, List.set_cons_succ])
        refine wpAnyH_skip (i := 17) rfl (by kernel_rfl) (by kernel_rfl) (by kernel_rfl) (fun _ _ _ h => h) (by rfl) (by assumption) ?_
        (try simp only [List.getElem_toArray, List.getElem_cons_zero, List.getElem_cons_succ, Act.put, List.setIfInBounds_toArray, List.set_cons_zero, List.set_cons_succ])
        refine wpAnyH_go (i := 18) (v := ?v1_18) rfl (by kernel_rfl) (by kernel_rfl) (by kernel_rfl) (fun _ _ _ h => h) (by rfl) ?hy1_18 (by assumption) ?rest1_18
        case hy1_18 => (intro w_ hSw; (try dsimp only at hSw); go_simp; (try (with_reducible rfl)))
        (try simp only [List.getElem_toArray, List.getElem_cons_zero, List.getElem_cons_succ, Act.put, List.setIfInBounds_toArray, List.set_cons_zero, List.set_cons_succ])
        refine wpAnyH_go (i := 19) (v := ?v1_19) rfl (by kernel_rfl) (by kernel_rfl) (by kernel_rfl) (fun _ _ _ h => h) (by rfl) ?hy1_19 (by assumption) ?rest1_19
        case hy1_19 => (intro w_ hSw; (try dsimp only at hSw); go_simp; (try (with_reducible rfl)))
        (try simp only [List.getElem_toArray, List.getElem_cons_zero, List.getElem_cons_succ, Act.put, List.setIfInBounds_toArray, List.set_cons_zero, List.set_cons_succ])
        refine wpAnyH_skip (i := 20) rfl (by kernel_rfl) (by kernel_rfl) (by kernel_rfl) (fun _ _ _ h => h) (by rfl) (by assumption) ?_
        (try simp only [List.getElem_toArray, List.getElem_cons_zero, List.getElem_cons_succ, Act.put, List.setIfInBounds_toArray, List.set_cons_zero, List.set_cons_succ])
        refine wpAnyH_skip (i := 21) rfl (by kernel_rfl) (by kernel_rfl) (by kernel_rfl) (fun _ _ _ h => h) (by rfl) (by assumption) ?_
        (try simp only [List.getElem_toArray, List.getElem_cons_zero, List.getElem_cons_succ, Act.put, List.setIfInBounds_toArray, List.set_cons_zero, List.set_cons_succ])
        refine wpAnyH_skip (i := 22) rfl (by kernel_rfl) (by kernel_rfl) (by kernel_rfl) (fun _ _ _ h => h) (by rfl) (by assumption) ?_
        (try simp only [List.getElem_toArray, List.getElem_cons_zero, List.getElem_cons_succ, Act.put, List.setIfInBounds_toArray, List.set_cons_zero, List.set_cons_succ])
        refine wpAnyH_skip (i := 23) rfl (by kernel_rfl) (by kernel_rfl) (by kernel_rfl) (fun _ _ _ h => h) (by rfl) (by assumption) ?_
        (try simp only [List.getElem_toArray, List.getElem_cons_zero, List.getElem_cons_succ, Act.put, List.setIfInBounds_toArray, List.set_cons_zero, List.set_cons_succ])
        refine wpAnyH_go (i := 24) (v := ?v1_24) rfl (by kernel_rfl) (by kernel_rfl) (by kernel_rfl) (fun _ _ _ h => h) (by rfl) ?hy1_24 (by assumption) ?rest1_24
        case hy1_24 => (intro w_ hSw; (try dsimp only at hSw); go_simp; (try (with_reducible rfl)))
        (try simp only [List.getElem_toArray, List.getElem_cons_zero, List.getElem_cons_succ, Act.put, List.setIfInBounds_toArray, List.set_cons_zero, List.set_cons_succ])
        refine wpAnyH_done (by kernel_rfl) ?_ _
        refine NoPanic.normal ?_
        all_goals (
          go_wp2
          go_ret
          exact ⟨ret_bool HF.out.symm, hb.trans ((hbW.trans (Below.mono (by first | exact Below.refl _ _ | exact (Below.refl _ _).drew | exact below_drewN (Below.refl _ _) _ | exact bel) hq2)).mono hzr)⟩)
      · cases hck : cardOk d f ss
        · have HF := Lib.hid (catOk_no (unhide HKP) (by unfold itGood; rw [HX.out]; simp [hck]))
          by_cases hj0 : j = 0
          · have hjz : ¬ 0 < j := (by omega); have hdj : decide (0 < j) = false := (by simp [hj0]); have HJ0 := Lib.hid hj0; clear hj0
            have hqn := fun W => i_NameOk nm W hnm
            simp only [hnok] at hqn
            have HQN := hide hqn
            clear hqn
            go_wp2
            have hk0 := blk_new wr (.cells #[.string nm, .int .i64 d, .int .i64 f, .slice A0 ss.length c0] 132)
            have hbW : Below wr.heap.size wr (wr.alloc (.cells #[.string nm, .int .i64 d, .int .i64 f, .slice A0 ss.length c0] 132)) := bel
            have hs0 := hss.alloc (by omega) (.cells #[.string nm, .int .i64 d, .int .i64 f, .slice A0 ss.length c0] 132)
            have hq1 : (ad.add (j * 4)).block < wr.heap.size := by rw [block_of_add]; omega
            generalize (wr.alloc (.cells #[.string nm, .int .i64 d, .int .i64 f, .slice A0 ss.length c0] 132)) = w0 at *
            obtain ⟨hy0, hy1, hy2, hy3, hyl⟩ := blk4 hk0
            have hq2 : wr.heap.size ≤ w0.heap.size := hbW.size
            have hs0B := hs0.more (B' := w0.heap.size) (by omega)
            refine wp_region_noPanic ?_
            refine wp_region_held_drew (S := (fun W => (∀ p : Addr, p.block < w0.heap.size → W.cell? p = w0.cell? p) ∧ (∀ p : Addr, p.block < w0.heap.size → W.frozen? p = w0.frozen? p) ∧ Below w0.heap.size w0 W)) (by kernel_rfl) ?_ (fun hHeld => ?_)
            · exact (keep_ofP bel)
            refine wpAnyH_go (i := 0) (v := ?v2_0) rfl (by kernel_rfl) (by kernel_rfl) (by kernel_rfl) (fun _ _ _ h => h) (by rfl) ?hy2_0 (by assumption) ?rest2_0
            case hy2_0 => (intro w_ hSw; (try dsimp only at hSw); go_simp; (try (with_reducible rfl)))
            (try simp only [List.getElem_toArray, List.getElem_cons_zero, Act.put, List.setIfInBounds_toArray, List.set_cons_zero, List.set_cons_succ])
            refine wpAnyH_go (i := 1) (v := ?v2_1) rfl (by kernel_rfl) (by kernel_rfl) (by kernel_rfl) (fun _ _ _ h => h) (by rfl) ?hy2_1 (by assumption) ?rest2_1
            case hy2_1 => (intro w_ hSw; (try dsimp only at hSw); go_simp; (try (with_reducible rfl)))
            (try simp only [List.getElem_toArray, List.getElem_cons_zero, List.getElem_cons_succ, Act.put, List.setIfInBounds_toArray, List.set_cons_zero, List.set_cons_succ])
            refine wpAnyH_ready (rs := [2]) (by kernel_rfl) (by simp) ?_
            refine AllReadyH.cons rfl (fun K hK => ?_) AllReadyH.nil
            go_simp
            (refine (unhide HQN _).mono ?_; rintro e w' ⟨rfl, rfl⟩)
            (try (go_wp2_with fail))
            refine hK.out _ _ ?_ (fun hHeld => ?_)
            · exact (keep_ofP bel)
            clear hK K
            (try simp only [List.getElem_toArray, List.getElem_cons_zero, List.getElem_cons_succ, Act.put, List.setIfInBounds_toArray, List.set_cons_zero, List.set_cons_succ])
            refine wpAnyH_go (i := 3) (v := ?v2_3) rfl (by kernel_rfl) (by kernel_rfl) (by kernel_rfl) (fun _ _ _ h => h) (by rfl) ?hy2_3 (by assumption) ?rest2_3
            case hy2_3 => (intro w_ hSw; (try dsimp only at hSw); go_simp; (try (with_reducible rfl)))
            (try simp only [List.getElem_toArray, List.getElem_cons_zero, List.getElem_cons_succ, Act.put, List.setIfInBounds_toArray, List.set_cons_zero, List.set_cons_succ])
            refine wpAnyH_go (i := 4) (v := ?v2_4) rfl (by kernel_rfl) (by kernel_rfl) (by kernel_rfl) (fun _ _ _ h => h) (by rfl) ?hy2_4 (by assumption) ?rest2_4
            case hy2_4 => (intro w_ hSw; (try dsimp only at hSw); go_simp; (try (with_reducible rfl)))
            (try simp only [List.getElem_toArray, List.getElem_cons_zero, List.getElem_cons_succ, Act.put, List.setIfInBounds_toArray, List.set_cons_zero, List.set_cons_succ])
            refine wpAnyH_go (i := 5) (v := ?v2_5) rfl (by kernel_rfl) (by kernel_rfl) (by kernel_rfl) (fun _ _ _ h => h) (by rfl) ?hy2_5 (by assumption) ?rest2_5
            case hy2_5 => (intro w_ hSw; (try dsimp only at hSw); go_simp; (try (with_reducible rfl)))
            (try simp only [List.getElem_toArray, List.getElem_cons_zero, List.getElem_cons_succ, Act.put, List.setIfInBounds_toArray, List.set_cons_zero, List.set_cons_succ])
            refine wpAnyH_go (i := 6) (v := ?v2_6) rfl (by kernel_rfl) (by kernel_rfl) (by kernel_rfl) (fun _ _ _ h => h) (by rfl) ?hy2_6 (by assumption) ?rest2_6
            case hy2_6 => (intro w_ hSw; (try dsimp only at hSw); go_simp; (try (with_reducible rfl)))
            (try simp only [List.getElem_toArray, List.getElem_cons_zero, List.getElem_cons_succ, Act.put, List.setIfInBounds_toArray, List.set_cons_zero, List.set_cons_succ])
            refine wpAnyH_go (i := 7) (v := ?v2_7) rfl (by kernel_rfl) (by kernel_rfl) (by kernel_rfl) (fun _ _ _ h => h) (by rfl) ?hy2_7 (by assumption) ?rest2_7
            case hy2_7 => (intro w_ hSw; (try dsimp only at hSw); go_simp; (try (with_reducible rfl)))
            (try simp only [List.getElem_toArray, List.getElem_cons_zero, List.getElem_cons_succ, Act.put, List.setIfInBounds_toArray, List.set_cons_zero, List.set_cons_succ])
            refine wpAnyH_skip (i := 8) rfl (by kernel_rfl) (by kernel_rfl) (by kernel_rfl) (fun _ _ _ h => h) (by rfl) (by assumption) ?_
            (try simp only [List.getElem_toArray, List.getElem_cons_zero, List.getElem_cons_succ, Act.put, List.setIfInBounds_toArray, List.set_cons_zero, List.set_cons_succ])
            refine wpAnyH_skip (i := 9) rfl (by kernel_rfl) (by kernel_rfl) (by kernel_rfl) (fun _ _ _ h => h) (by rfl) (by assumption) ?_
            (try simp only [List.getElem_toArray, List.getElem_cons_zero, List.getElem_cons_succ, Act.put, List.setIfInBounds_toArray, List.set_cons_zero, List.set_cons_succ])
            refine wpAnyH_skip (i := 10) rfl (by kernel_rfl) (by kernel_rfl) (by kernel_rfl) (fun _ _ _ h => h) (by rfl) (by assumption) ?_
            (try simp only [List.getElem_toArray, List.getElem_cons_zero, List.getElem_cons_succ, Act.put, List.setIfInBounds_toArray, List.set_cons_zero, List.set_cons_succ])
            refine wpAnyH_skip (i := 11) rfl (by kernel_rfl) (by kernel_rfl) (by kernel_rfl) (fun _ _ _ h => h) (by rfl) (by assumption) ?_
            (try simp only [List.getElem_toArray, List.getElem_cons_zero, List.getElem_cons_succ, Act.put, List.setIfInBounds_toArray, List.set_cons_zero, List.set_cons_succ])
            refine wpAnyH_skip (i := 12) rfl (by kernel_rfl) (by kernel_rfl) (by kernel_rfl) (fun _ _ _ h => h) (by rfl) (by assumption) ?_
            (try simp only [List.getElem_toArray, List.getElem_cons_zero, List.getElem_cons_succ, Act.put, List.setIfInBounds_toArray, List.set_cons_zero, List.set_cons_succ])
            refine wpAnyH_skip (i := 13) rfl (by kernel_rfl) (by kernel_rfl) (by kernel_rfl) (fun _ _ _ h => h) (by rfl) (by assumption) ?_
            (try simp only [List.getElem_toArray, List.getElem_cons_zero, List.getElem_cons_succ, Act.put, List.setIfInBounds_toArray, List.set_cons_zero, List.set_cons_succ])
            refine wpAnyH_skip (i := 14) rfl (by kernel_rfl) (by kernel_rfl) (by kernel_rfl) (fun _ _ _ h => h) (by rfl) (by assumption) ?_
            (try simp only [List.getElem_toArray, List.getElem_cons_zero, List.getElem_cons_succ, Act.put, List.setIfInBounds_toArray, List.set_cons_zero, List.set_cons_succ])
            refine wpAnyH_skip (i := 15) rfl (by kernel_rfl) (by kernel_rfl) (by kernel_rfl) (fun _ _ _ h => h) (by rfl) (by assumption) ?_
            (try simp only [List.getElem_toArray, List.getElem_cons_zero, List.getElem_cons_succ, Act.put, List.setIfInBounds_toArray, List.set_cons_zero, List.set_cons_succ])
            refine wpAnyH_skip (i := 16) rfl (by kernel_rfl) (by kernel_rfl) (by kernel_rfl) (fun _ _ _ h => h) (by rfl) (by assumption) ?_
            (try simp only [List.getElem_toArray, List.getElem_cons_zero, List.getElem_cons_succ, Act.put, List.setIfInBounds_toArray, List.set_cons_zero, List.set_cons_succ])
            refine wpAnyH_go (i := 17) (v := ?v2_17) rfl (by kernel_rfl) (by kernel_rfl) (by kernel_rfl) (fun _ _ _ h => h) (by rfl) ?hy2_17 (by assumption) ?rest2_17
            case hy2_17 => (intro w_ hSw; (try dsimp only at hSw); go_simp; (try (with_reducible rfl)))
            (try simp only [List.getElem_toArray, List.getElem_cons_zero, List.getElem_cons_succ, Act.put, List.setIfInBounds_toArray, List.set_cons_zero, List.set_cons_succ])
            refine wpAnyH_go (i := 18) (v := ?v2_18) rfl (by kernel_rfl) (by kernel_rfl) (by kernel_rfl) (fun _ _ _ h => h) (by rfl) ?hy2_18 (by assumption) ?rest2_18
            case hy2_18 => (intro w_ hSw; (try dsimp only at hSw); go_simp; (try (with_reducible rfl)))
            (try simp only [List.getElem_toArray, List.getElem_cons_zero, List.getElem_cons_succ, Act.put, List.setIfInBounds_toArray, List.set_cons_zero, List.set_cons_succ])
            refine wpAnyH_go (i := 19) (v := ?v2_19) rfl (by kernel_rfl) (by kernel_rfl) (by kernel_rfl) (fun _ _ _ h => h) (by rfl) ?hy2_19 (by assumption) ?rest2_19
            case hy2_19 => (intro w_ hSw; (try dsimp only at hSw); go_simp; (try (with_reducible rfl)))
            (try simp only [List.getElem_toArray, List.getElem_cons_zero, List.getElem_cons_succ, Act.put, List.setIfInBounds_toArray, List.set_cons_zero, List.set_cons_succ])
            refine wpAnyH_go (i := 20) (v := ?v2_20) rfl (by kernel_rfl) (by kernel_rfl) (by kernel_rfl) (fun _ _ _ h => h) (by rfl) ?hy2_20 (by assumption) ?rest2_20
            case hy2_20 => (intro w_ hSw; (try dsimp only at hSw); go_simp; (try (with_reducible rfl)))
            (try simp only [List.getElem_toArray, List.getElem_cons_zero, List.getElem_cons_succ, Act.put, List.setIfInBounds_toArray, List.set_cons_zero, List.set_cons_succ])
            refine wpAnyH_go (i := 21) (v := ?v2_21) rfl (by kernel_rfl) (by kernel_rfl) (by kernel_rfl) (fun _ _ _ h => h) (by rfl) ?hy2_21 (by assumption) ?rest2_21
            case hy2_21 => (intro w_ hSw; (try dsimp only at hSw); go_simp; (try (with_reducible rfl)))
            (try simp only [List.getElem_toArray, List.getElem_cons_zero, List.getElem_cons_succ, Act.put, List.setIfInBounds_toArray, List.set_cons_zero, List.set_cons_succ])
            refine wpAnyH_ready (rs := [22]) (by kernel_rfl) (by simp) ?_
            refine AllReadyH.cons rfl (fun K hK => ?_) AllReadyH.nil
            go_simp
            (have hq := (‹_ ∧ _ ∧ Below _ _ _›).2.2; refine (i_CardOk d f _ _ _ ss _ ?_).mono ?_; exact (hs0B.below hq).more hq.size; rw [hck]; rintro e w2 ⟨rfl, hb2⟩)
            (try (go_wp2_with fail))
            refine hK.out _ _ ?_ (fun hHeld => ?_)
            · exact (keep_ofP bel)
            clear hK K
            (try simp only [List.getElem_toArray, List.getElem_cons_zero, List.getElem_cons_succ, Act.put, List.setIfInBounds_toArray, List.set_cons_zero, List.set_cons_succ])
            refine wpAnyH_go (i := 23) (v := ?v2_23) rfl (by kernel_rfl) (by kernel_rfl) (by kernel_rfl) (fun _ _ _ h => h) (by rfl) ?hy2_23 (by assumption) ?rest2_23
            case hy2_23 => (intro w_ hSw; (try dsimp only at hSw); go_simp; (try (with_reducible rfl)))
            (try simp only [List.getElem_toArray, List.getElem_cons_zero, List.getElem_cons_succ, Act.put, List.setIfInBounds_toArray, List.set_cons_zero, List.set_cons_succ])
            refine wpAnyH_go (i := 24) (v := ?v2_24) rfl (by kernel_rfl) (by kernel_rfl) (by kernel_rfl) (fun _ _ _ h => h) (by rfl) ?hy2_24 (by assumption) ?rest2_24
            case hy2_24 => (intro w_ hSw; (try dsimp only at hSw); go_simp; (try (with_reducible rfl)))
            (try simp only [List.getElem_toArray, List.getElem_cons_zero, List.getElem_cons_succ, Act.put, List.setIfInBounds_toArray, List.set_cons_zero, List.set_cons_succ])
            refine wpAnyH_done (by kernel_rfl) ?_ _
            refine NoPanic.normal ?_
            all_goals (
              go_wp2
              go_ret
              exact ⟨ret_bool HF.out.symm, hb.trans ((hbW.trans (Below.mono (by first | exact hb2 | exact (Below.refl _ _).drew.trans hb2 | exact below_drewN hb2 _ | exact (below_drewN (Below.refl _ _) _).trans hb2 | exact bel) hq2)).mono hzr)⟩)
          · obtain ⟨K, hK⟩ : ∃ K, j = K + 1 := ⟨j - 1, by omega⟩; obtain ⟨hkq, adq, hade, habq, hq0, hq1_, hq2_, hq3_, hssq, hnmq⟩ := hSr.at_ (k := K) (by omega)
            have hKn : K < n := by omega
            have HK := Lib.hid hK
            have hwk : IntKind.i64.wrap ((j : Int) - 1) = K := by rw [show (j : Int) - 1 = (K : Int) by omega, IntWalk.i64_in _ (by omega)]
            have hjp : 0 < j := by omega
            have hdj : decide (0 < j) = true := by simp [hjp]
            have hkn1 : (0 : Int) ≤ (K : Int) := by omega
            have hkn2 : (K : Int) < n := by omega
            clear hK hj0
            have hadq : adq = ad := by injection hade with h; exact h.symm
            rw [hadq] at hq0
            clear hq1_ hq2_ hq3_ hssq hade habq hadq
            have HXP := Lib.hid (show P[K]? = some L[K].x by rw [← HP.out]; exact plI_at hkq)
            obtain ⟨nq, hnq⟩ : ∃ a, a = L[K].x.nm := ⟨_, rfl⟩
            rw [← hnq] at hq0 hnmq
            have hpc := hq0
            have HNQ := Lib.hid hnq
            clear hq0 hnq
            cases hl1 : Op.bytesLess nm.toList nq.toList
            · cases hl2 : (nm.toList == nq.toList)
              · skip
                have hqn := fun W => i_NameOk nm W hnm
                simp only [hnok] at hqn
                have HQN := hide hqn
                clear hqn
                go_wp2
                have hk0 := blk_new wr (.cells #[.string nm, .int .i64 d, .int .i64 f, .slice A0 ss.length c0] 132)
                have hbW : Below wr.heap.size wr (wr.alloc (.cells #[.string nm, .int .i64 d, .int .i64 f, .slice A0 ss.length c0] 132)) := bel
                have hs0 := hss.alloc (by omega) (.cells #[.string nm, .int .i64 d, .int .i64 f, .slice A0 ss.length c0] 132)
                have hq1 : (ad.add (j * 4)).block < wr.heap.size := by rw [block_of_add]; omega
                have hpc0 := (World.cell?_alloc_lt wr (.cells #[.string nm, .int .i64 d, .int .i64 f, .slice A0 ss.length c0] 132) (ad.add (K * 4)) (by rw [block_of_add]; omega)).trans hpc; have hpq : (ad.add (K * 4)).block < wr.heap.size := (by rw [block_of_add]; omega)
                generalize (wr.alloc (.cells #[.string nm, .int .i64 d, .int .i64 f, .slice A0 ss.length c0] 132)) = w0 at *
                obtain ⟨hy0, hy1, hy2, hy3, hyl⟩ := blk4 hk0
                have hq2 : wr.heap.size ≤ w0.heap.size := hbW.size
                have hpq2 : (ad.add (K * 4)).block < w0.heap.size := by omega
                have hs0B := hs0.more (B' := w0.heap.size) (by omega)
                refine wp_region_noPanic ?_
                refine wp_region_held_drew (S := (fun W => (∀ p : Addr, p.block < w0.heap.size → W.cell? p = w0.cell? p) ∧ (∀ p : Addr, p.block < w0.heap.size → W.frozen? p = w0.frozen? p) ∧ Below w0.heap.size w0 W)) (by kernel_rfl) ?_ (fun hHeld => ?_)
                · exact (keep_ofP bel)
                refine wpAnyH_go (i := 0) (v := ?v3_0) rfl (by kernel_rfl) (by kernel_rfl) (by kernel_rfl) (fun _ _ _ h => h) (by rfl) ?hy3_0 (by assumption) ?rest3_0
                case hy3_0 => (intro w_ hSw; (try dsimp only at hSw); go_simp; (try (with_reducible rfl)))
                (try simp only [List.getElem_toArray, List.getElem_cons_zero, Act.put, List.setIfInBounds_toArray, List.set_cons_zero, List.set_cons_succ])
                refine wpAnyH_go (i := 1) (v := ?v3_1) rfl (by kernel_rfl) (by kernel_rfl) (by kernel_rfl) (fun _ _ _ h => h) (by rfl) ?hy3_1 (by assumption) ?rest3_1
                case hy3_1 => (intro w_ hSw; (try dsimp only at hSw); go_simp; (try (with_reducible rfl)))
                (try simp only [List.getElem_toArray, List.getElem_cons_zero, List.getElem_cons_succ, Act.put, List.setIfInBounds_toArray, List.set_cons_zero, List.set_cons_succ])
                refine wpAnyH_ready (rs := [2]) (by kernel_rfl) (by simp) ?_
                refine AllReadyH.cons rfl (fun K hK => ?_) AllReadyH.nil
                go_simp
                (refine (unhide HQN _).mono ?_; rintro e w' ⟨rfl, rfl⟩)
                (try (go_wp2_with fail))
                refine hK.out _ _ ?_ (fun hHeld => ?_)
                · exact (keep_ofP bel)
                clear hK K
                (try simp only [List.getElem_toArray, List.getElem_cons_zero, List.getElem_cons_succ, Act.put, List.setIfInBounds_toArray, List.set_cons_zero, List.set_cons_succ])
                refine wpAnyH_go (i := 3) (v := ?v3_3) rfl (by kernel_rfl) (by kernel_rfl) (by kernel_rfl) (fun _ _ _ h => h) (by rfl) ?hy3_3 (by assumption) ?rest3_3
                case hy3_3 => (intro w_ hSw; (try dsimp only at hSw); go_simp; (try (with_reducible rfl)))
                (try simp only [List.getElem_toArray, List.getElem_cons_zero, List.getElem_cons_succ, Act.put, List.setIfInBounds_toArray, List.set_cons_zero, List.set_cons_succ])
                refine wpAnyH_go (i := 4) (v := ?v3_4) rfl (by kernel_rfl) (by kernel_rfl) (by kernel_rfl) (fun _ _ _ h => h) (by rfl) ?hy3_4 (by assumption) ?rest3_4
                case hy3_4 => (intro w_ hSw; (try dsimp only at hSw); go_simp; (try (with_reducible rfl)))
                (try simp only [List.getElem_toArray, List.getElem_cons_zero, List.getElem_cons_succ, Act.put, List.setIfInBounds_toArray, List.set_cons_zero, List.set_cons_succ])
                refine wpAnyH_go (i := 5) (v := ?v3_5) rfl (by kernel_rfl) (by kernel_rfl) (by kernel_rfl) (fun _ _ _ h => h) (by rfl) ?hy3_5 (by assumption) ?rest3_5
                case hy3_5 => (intro w_ hSw; (try dsimp only at hSw); go_simp; (try (with_reducible rfl)))
                (try simp only [List.getElem_toArray, List.getElem_cons_zero, List.getElem_cons_succ, Act.put, List.setIfInBounds_toArray, List.set_cons_zero, List.set_cons_succ])
                refine wpAnyH_go (i := 6) (v := ?v3_6) rfl (by kernel_rfl) (by kernel_rfl) (by kernel_rfl) (fun _ _ _ h => h) (by rfl) ?hy3_6 (by assumption) ?rest3_6
                case hy3_6 => (intro w_ hSw; (try dsimp only at hSw); go_simp; (try (with_reducible rfl)))
                (try simp only [List.getElem_toArray, List.getElem_cons_zero, List.getElem_cons_succ, Act.put, List.setIfInBounds_toArray, List.set_cons_zero, List.set_cons_succ])
                refine wpAnyH_go (i := 7) (v := ?v3_7) rfl (by kernel_rfl) (by kernel_rfl) (by kernel_rfl) (fun _ _ _ h => h) (by rfl) ?hy3_7 (by assumption) ?rest3_7
                case hy3_7 => (intro w_ hSw; (try dsimp only at hSw); go_simp; (try (with_reducible rfl)))
                (try simp only [List.getElem_toArray, List.getElem_cons_zero, List.getElem_cons_succ, Act.put, List.setIfInBounds_toArray, List.set_cons_zero, List.set_cons_succ])
                refine wpAnyH_go (i := 8) (v := ?v3_8) rfl (by kernel_rfl) (by kernel_rfl) (by kernel_rfl) (fun _ _ _ h => h) (by rfl) ?hy3_8 (by assumption) ?rest3_8
                case hy3_8 => (intro w_ hSw; (try dsimp only at hSw); go_simp; (try (with_reducible rfl)))
                (try simp only [List.getElem_toArray, List.getElem_cons_zero, List.getElem_cons_succ, Act.put, List.setIfInBounds_toArray, List.set_cons_zero, List.set_cons_succ])
                refine wpAnyH_go (i := 9) (v := ?v3_9) rfl (by kernel_rfl) (by kernel_rfl) (by kernel_rfl) (fun _ _ _ h => h) (by rfl) ?hy3_9 (by assumption) ?rest3_9
                case hy3_9 => (intro w_ hSw; (try dsimp only at hSw); go_simp; (try (with_reducible rfl)))
                (try simp only [List.getElem_toArray, List.getElem_cons_zero, List.getElem_cons_succ, Act.put, List.setIfInBounds_toArray, List.set_cons_zero, List.set_cons_succ])
                refine wpAnyH_go (i := 10) (v := ?v3_10) rfl (by kernel_rfl) (by kernel_rfl) (by kernel_rfl) (fun _ _ _ h => h) (by rfl) ?hy3_10 (by assumption) ?rest3_10
                case hy3_10 => (intro w_ hSw; (try dsimp only at hSw); go_simp; (try (with_reducible rfl)))
                (try simp only [List.getElem_toArray, List.getElem_cons_zero, List.getElem_cons_succ, Act.put, List.setIfInBounds_toArray, List.set_cons_zero, List.set_cons_succ])
                refine wpAnyH_go (i := 11) (v := ?v3_11) rfl (by kernel_rfl) (by kernel_rfl) (by kernel_rfl) (fun _ _ _ h => h) (by rfl) ?hy3_11 (by assumption) ?rest3_11
                case hy3_11 => (intro w_ hSw; (try dsimp only at hSw); go_simp; (try (with_reducible rfl)))
                (try simp only [List.getElem_toArray, List.getElem_cons_zero, List.getElem_cons_succ, Act.put, List.setIfInBounds_toArray, List.set_cons_zero, List.set_cons_succ])
                refine wpAnyH_go (i := 12) (v := ?v3_12) rfl (by kernel_rfl) (by kernel_rfl) (by kernel_rfl) (fun _ _ _ h => h) (by rfl) ?hy3_12 (by assumption) ?rest3_12
                case hy3_12 => (intro w_ hSw; (try dsimp only at hSw); go_simp; (try (with_reducible rfl)))
                (try simp only [List.getElem_toArray, List.getElem_cons_zero, List.getElem_cons_succ, Act.put, List.setIfInBounds_toArray, List.set_cons_zero, List.set_cons_succ])
                refine wpAnyH_go (i := 13) (v := ?v3_13) rfl (by kernel_rfl) (by kernel_rfl) (by kernel_rfl) (fun _ _ _ h => h) (by rfl) ?hy3_13 (by assumption) ?rest3_13
                case hy3_13 => (intro w_ hSw; (try dsimp only at hSw); go_simp; (try (with_reducible rfl)))
                (try simp only [List.getElem_toArray, List.getElem_cons_zero, List.getElem_cons_succ, Act.put, List.setIfInBounds_toArray, List.set_cons_zero, List.set_cons_succ])
                refine wpAnyH_go (i := 14) (v := ?v3_14) rfl (by kernel_rfl) (by kernel_rfl) (by kernel_rfl) (fun _ _ _ h => h) (by rfl) ?hy3_14 (by assumption) ?rest3_14
                case hy3_14 => (intro w_ hSw; (try dsimp only at hSw); go_simp; (try (with_reducible rfl)))
                (try simp only [List.getElem_toArray, List.getElem_cons_zero, List.getElem_cons_succ, Act.put, List.setIfInBounds_toArray, List.set_cons_zero, List.set_cons_succ])
                refine wpAnyH_go (i := 15) (v := ?v3_15) rfl (by kernel_rfl) (by kernel_rfl) (by kernel_rfl) (fun _ _ _ h => h) (by rfl) ?hy3_15 (by assumption) ?rest3_15
                case hy3_15 => (intro w_ hSw; (try dsimp only at hSw); go_simp; (try (with_reducible rfl)))
                (try simp only [List.getElem_toArray, List.getElem_cons_zero, List.getElem_cons_succ, Act.put, List.setIfInBounds_toArray, List.set_cons_zero, List.set_cons_succ])
                refine wpAnyH_go (i := 16) (v := ?v3_16) rfl (by kernel_rfl) (by kernel_rfl) (by kernel_rfl) (fun _ _ _ h => h) (by rfl) ?hy3_16 (by assumption) ?rest3_16
                case hy3_16 => (intro w_ hSw; (try dsimp only at hSw); go_simp; (try (with_reducible rfl)))
                (try simp only [List.getElem_toArray, List.getElem_cons_zero, List.getElem_cons_succ, Act.put, List.setIfInBounds_toArray, List.set_cons_zero, List.set_cons_succ])
                refine wpAnyH_go (i := 17) (v := ?v3_17) rfl (by kernel_rfl) (by kernel_rfl) (by kernel_rfl) (fun _ _ _ h => h) (by rfl) ?hy3_17 (by assumption) ?rest3_17
                case hy3_17 => (intro w_ hSw; (try dsimp only at hSw); go_simp; (try (with_reducible rfl)))
                (try simp only [List.getElem_toArray, List.getElem_cons_zero, List.getElem_cons_succ, Act.put, List.setIfInBounds_toArray, List.set_cons_zero, List.set_cons_succ])
                refine wpAnyH_go (i := 18) (v := ?v3_18) rfl (by kernel_rfl) (by kernel_rfl) (by kernel_rfl) (fun _ _ _ h => h) (by rfl) ?hy3_18 (by assumption) ?rest3_18
                case hy3_18 => (intro w_ hSw; (try dsimp only at hSw); go_simp; (try (with_reducible rfl)))
                (try simp only [List.getElem_toArray, List.getElem_cons_zero, List.getElem_cons_succ, Act.put, List.setIfInBounds_toArray, List.set_cons_zero, List.set_cons_succ])
                refine wpAnyH_go (i := 19) (v := ?v3_19) rfl (by kernel_rfl) (by kernel_rfl) (by kernel_rfl) (fun _ _ _ h => h) (by rfl) ?hy3_19 (by assumption) ?rest3_19
                case hy3_19 => (intro w_ hSw; (try dsimp only at hSw); go_simp; (try (with_reducible rfl)))
                (try simp only [List.getElem_toArray, List.getElem_cons_zero, List.getElem_cons_succ, Act.put, List.setIfInBounds_toArray, List.set_cons_zero, List.set_cons_succ])
                refine wpAnyH_go (i := 20) (v := ?v3_20) rfl (by kernel_rfl) (by kernel_rfl) (by kernel_rfl) (fun _ _ _ h => h) (by rfl) ?hy3_20 (by assumption) ?rest3_20
                case hy3_20 => (intro w_ hSw; (try dsimp only at hSw); go_simp; (try (with_reducible rfl)))
                (try simp only [List.getElem_toArray, List.getElem_cons_zero, List.getElem_cons_succ, Act.put, List.setIfInBounds_toArray, List.set_cons_zero, List.set_cons_succ])
                refine wpAnyH_go (i := 21) (v := ?v3_21) rfl (by kernel_rfl) (by kernel_rfl) (by kernel_rfl) (fun _ _ _ h => h) (by rfl) ?hy3_21 (by assumption) ?rest3_21
                case hy3_21 => (intro w_ hSw; (try dsimp only at hSw); go_simp; (try (with_reducible rfl)))
                (try simp only [List.getElem_toArray, List.getElem_cons_zero, List.getElem_cons_succ, Act.put, List.setIfInBounds_toArray, List.set_cons_zero, List.set_cons_succ])
                refine wpAnyH_ready (rs := [22]) (by kernel_rfl) (by simp) ?_
                refine AllReadyH.cons rfl (fun K hK => ?_) AllReadyH.nil
                go_simp
                (have hq := (‹_ ∧ _ ∧ Below _ _ _›).2.2; refine (i_CardOk d f _ _ _ ss _ ?_).mono ?_; exact (hs0B.below hq).more hq.size; rw [hck]; rintro e w2 ⟨rfl, hb2⟩)
                (try (go_wp2_with fail))
                refine hK.out _ _ ?_ (fun hHeld => ?_)
                · exact (keep_ofP bel)
                clear hK K
                (try simp only [List.getElem_toArray, List.getElem_cons_zero, List.getElem_cons_succ, Act.put, List.setIfInBounds_toArray, List.set_cons_zero, List.set_cons_succ])
                refine wpAnyH_go (i := 23) (v := ?v3_23) rfl (by kernel_rfl) (by kernel_rfl) (by kernel_rfl) (fun _ _ _ h => h) (by rfl) ?hy3_23 (by assumption) ?rest3_23
                case hy3_23 => (intro w_ hSw; (try dsimp only at hSw); go_simp; (try (with_reducible rfl)))
                (try simp only [List.getElem_toArray, List.getElem_cons_zero, List.getElem_cons_succ, Act.put, List.setIfInBounds_toArray, List.set_cons_zero, List.set_cons_succ])
                refine wpAnyH_go (i := 24) (v := ?v3_24) rfl (by kernel_rfl) (by kernel_rfl) (by kernel_rfl) (fun _ _ _ h => h) (by rfl) ?hy3_24 (by assumption) ?rest3_24
                case hy3_24 => (intro w_ hSw; (try dsimp only at hSw); go_simp; (try (with_reducible rfl)))
                (try simp only [List.getElem_toArray, List.getElem_cons_zero, List.getElem_cons_succ, Act.put, List.setIfInBounds_toArray, List.set_cons_zero, List.set_cons_succ])
                refine wpAnyH_done (by kernel_rfl) ?_ _
                refine NoPanic.normal ?_
                all_goals (
                  go_wp2
                  go_ret
                  exact ⟨ret_bool HF.out.symm, hb.trans ((hbW.trans (Below.mono (by first | exact hb2 | exact (Below.refl _ _).drew.trans hb2 | exact below_drewN hb2 _ | exact (below_drewN (Below.refl _ _) _).trans hb2 | exact bel) hq2)).mono hzr)⟩)
              · skip
                have hqn := fun W => i_NameOk nm W hnm
                simp only [hnok] at hqn
                have HQN := hide hqn
                clear hqn
                go_wp2
                have hk0 := blk_new wr (.cells #[.string nm, .int .i64 d, .int .i64 f, .slice A0 ss.length c0] 132)
                have hbW : Below wr.heap.size wr (wr.alloc (.cells #[.string nm, .int .i64 d, .int .i64 f, .slice A0 ss.length c0] 132)) := bel
                have hs0 := hss.alloc (by omega) (.cells #[.string nm, .int .i64 d, .int .i64 f, .slice A0 ss.length c0] 132)
                have hq1 : (ad.add (j * 4)).block < wr.heap.size := by rw [block_of_add]; omega
                have hpc0 := (World.cell?_alloc_lt wr (.cells #[.string nm, .int .i64 d, .int .i64 f, .slice A0 ss.length c0] 132) (ad.add (K * 4)) (by rw [block_of_add]; omega)).trans hpc; have hpq : (ad.add (K * 4)).block < wr.heap.size := (by rw [block_of_add]; omega)
                generalize (wr.alloc (.cells #[.string nm, .int .i64 d, .int .i64 f, .slice A0 ss.length c0] 132)) = w0 at *
                obtain ⟨hy0, hy1, hy2, hy3, hyl⟩ := blk4 hk0
                have hq2 : wr.heap.size ≤ w0.heap.size := hbW.size
                have hpq2 : (ad.add (K * 4)).block < w0.heap.size := by omega
                have hs0B := hs0.more (B' := w0.heap.size) (by omega)
                refine wp_region_noPanic ?_
                refine wp_region_held_drew (S := (fun W => (∀ p : Addr, p.block < w0.heap.size → W.cell? p = w0.cell? p) ∧ (∀ p : Addr, p.block < w0.heap.size → W.frozen? p = w0.frozen? p) ∧ Below w0.heap.size w0 W)) (by kernel_rfl) ?_ (fun hHeld => ?_)
                · exact (keep_ofP bel)
                refine wpAnyH_go (i := 0) (v := ?v4_0) rfl (by kernel_rfl) (by kernel_rfl) (by kernel_rfl) (fun _ _ _ h => h) (by rfl) ?hy4_0 (by assumption) ?rest4_0
                case hy4_0 => (intro w_ hSw; (try dsimp only at hSw); go_simp; (try (with_reducible rfl)))
                (try simp only [List.getElem_toArray, List.getElem_cons_zero, Act.put, List.setIfInBounds_toArray, List.set_cons_zero, List.set_cons_succ])
                refine wpAnyH_go (i := 1) (v := ?v4_1) rfl (by kernel_rfl) (by kernel_rfl) (by kernel_rfl) (fun _ _ _ h => h) (by rfl) ?hy4_1 (by assumption) ?rest4_1
                case hy4_1 => (intro w_ hSw; (try dsimp only at hSw); go_simp; (try (with_reducible rfl)))
                (try simp only [List.getElem_toArray, List.getElem_cons_zero, List.getElem_cons_succ, Act.put, List.setIfInBounds_toArray, List.set_cons_zero, List.set_cons_succ])
                refine wpAnyH_ready (rs := [2]) (by kernel_rfl) (by simp) ?_
                refine AllReadyH.cons rfl (fun K hK => ?_) AllReadyH.nil
                go_simp
                (refine (unhide HQN _).mono ?_; rintro e w' ⟨rfl, rfl⟩)
                (try (go_wp2_with fail))
                refine hK.out _ _ ?_ (fun hHeld => ?_)
                · exact (keep_ofP bel)
                clear hK K
                (try simp only [List.getElem_toArray, List.getElem_cons_zero, List.getElem_cons_succ, Act.put, List.setIfInBounds_toArray, List.set_cons_zero, List.set_cons_succ])
                refine wpAnyH_go (i := 3) (v := ?v4_3) rfl (by kernel_rfl) (by kernel_rfl) (by kernel_rfl) (fun _ _ _ h => h) (by rfl) ?hy4_3 (by assumption) ?rest4_3
                case hy4_3 => (intro w_ hSw; (try dsimp only at hSw); go_simp; (try (with_reducible rfl)))
                (try simp only [List.getElem_toArray, List.getElem_cons_zero, List.getElem_cons_succ, Act.put, List.setIfInBounds_toArray, List.set_cons_zero, List.set_cons_succ])
                refine wpAnyH_go (i := 4) (v := ?v4_4) rfl (by kernel_rfl) (by kernel_rfl) (by kernel_rfl) (fun _ _ _ h => h) (by rfl) ?hy4_4 (by assumption) ?rest4_4
                case hy4_4 => (intro w_ hSw; (try dsimp only at hSw); go_simp; (try (with_reducible rfl)))
                (try simp only [List.getElem_toArray, List.getElem_cons_zero, List.getElem_cons_succ, Act.put, List.setIfInBounds_toArray, List.set_cons_zero, List.set_cons_succ])
                refine wpAnyH_go (i := 5) (v := ?v4_5) rfl (by kernel_rfl) (by kernel_rfl) (by kernel_rfl) (fun _ _ _ h => h) (by rfl) ?hy4_5 (by assumption) ?rest4_5
                case hy4_5 => (intro w_ hSw; (try dsimp only at hSw); go_simp; (try (with_reducible rfl)))
                (try simp only [List.getElem_toArray, List.getElem_cons_zero, List.getElem_cons_succ, Act.put, List.setIfInBounds_toArray, List.set_cons_zero, List.set_cons_succ])
                refine wpAnyH_go (i := 6) (v := ?v4_6) rfl (by kernel_rfl) (by kernel_rfl) (by kernel_rfl) (fun _ _ _ h => h) (by rfl) ?hy4_6 (by assumption) ?rest4_6
                case hy4_6 => (intro w_ hSw; (try dsimp only at hSw); go_simp; (try (with_reducible rfl)))
                (try simp only [List.getElem_toArray, List.getElem_cons_zero, List.getElem_cons_succ, Act.put, List.setIfInBounds_toArray, List.set_cons_zero, List.set_cons_succ])
                refine wpAnyH_go (i := 7) (v := ?v4_7) rfl (by kernel_rfl) (by kernel_rfl) (by kernel_rfl) (fun _ _ _ h => h) (by rfl) ?hy4_7 (by assumption) ?rest4_7
                case hy4_7 => (intro w_ hSw; (try dsimp only at hSw); go_simp; (try (with_reducible rfl)))
                (try simp only [List.getElem_toArray, List.getElem_cons_zero, List.getElem_cons_succ, Act.put, List.setIfInBounds_toArray, List.set_cons_zero, List.set_cons_succ])
                refine wpAnyH_go (i := 8) (v := ?v4_8) rfl (by kernel_rfl) (by kernel_rfl) (by kernel_rfl) (fun _ _ _ h => h) (by rfl) ?hy4_8 (by assumption) ?rest4_8
                case hy4_8 => (intro w_ hSw; (try dsimp only at hSw); go_simp; (try (with_reducible rfl)))
                (try simp only [List.getElem_toArray, List.getElem_cons_zero, List.getElem_cons_succ, Act.put, List.setIfInBounds_toArray, List.set_cons_zero, List.set_cons_succ])
                refine wpAnyH_go (i := 9) (v := ?v4_9) rfl (by kernel_rfl) (by kernel_rfl) (by kernel_rfl) (fun _ _ _ h => h) (by rfl) ?hy4_9 (by assumption) ?rest4_9
                case hy4_9 => (intro w_ hSw; (try dsimp only at hSw); go_simp; (try (with_reducible rfl)))
                (try simp only [List.getElem_toArray, List.getElem_cons_zero, List.getElem_cons_succ, Act.put, List.setIfInBounds_toArray, List.set_cons_zero, List.set_cons_succ])
                refine wpAnyH_go (i := 10) (v := ?v4_10) rfl (by kernel_rfl) (by kernel_rfl) (by kernel_rfl) (fun _ _ _ h => h) (by rfl) ?hy4_10 (by assumption) ?rest4_10
                case hy4_10 => (intro w_ hSw; (try dsimp only at hSw); go_simp; (try (with_reducible rfl)))
                (try simp only [List.getElem_toArray, List.getElem_cons_zero, List.getElem_cons_succ, Act.put, List.setIfInBounds_toArray, List.set_cons_zero, List.set_cons_succ])
                refine wpAnyH_go (i := 11) (v := ?v4_11) rfl (by kernel_rfl) (by kernel_rfl) (by kernel_rfl) (fun _ _ _ h => h) (by rfl) ?hy4_11 (by assumption) ?rest4_11
                case hy4_11 => (intro w_ hSw; (try dsimp only at hSw); go_simp; (try (with_reducible rfl)))
                (try simp only [List.getElem_toArray, List.getElem_cons_zero, List.getElem_cons_succ, Act.put, List.setIfInBounds_toArray, List.set_cons_zero, List.set_cons_succ])
                refine wpAnyH_go (i := 12) (v := ?v4_12) rfl (by kernel_rfl) (by kernel_rfl) (by kernel_rfl) (fun _ _ _ h => h) (by rfl) ?hy4_12 (by assumption) ?rest4_12
                case hy4_12 => (intro w_ hSw; (try dsimp only at hSw); go_simp; (try (with_reducible rfl)))
                (try simp only [List.getElem_toArray, List.getElem_cons_zero, List.getElem_cons_succ, Act.put, List.setIfInBounds_toArray, List.set_cons_zero, List.set_cons_succ])
                refine wpAnyH_go (i := 13) (v := ?v4_13) rfl (by kernel_rfl) (by kernel_rfl) (by kernel_rfl) (fun _ _ _ h => h) (by rfl) ?hy4_13 (by assumption) ?rest4_13
                case hy4_13 => (intro w_ hSw; (try dsimp only at hSw); go_simp; (try (with_reducible rfl)))
                (try simp only [List.getElem_toArray, List.getElem_cons_zero, List.getElem_cons_succ, Act.put, List.setIfInBounds_toArray, List.set_cons_zero, List.set_cons_succ])
                refine wpAnyH_go (i := 14) (v := ?v4_14) rfl (by kernel_rfl) (by kernel_rfl) (by kernel_rfl) (fun _ _ _ h => h) (by rfl) ?hy4_14 (by assumption) ?rest4_14
                case hy4_14 => (intro w_ hSw; (try dsimp only at hSw); go_simp; (try (with_reducible rfl)))
                (try simp only [List.getElem_toArray, List.getElem_cons_zero, List.getElem_cons_succ, Act.put, List.setIfInBounds_toArray, List.set_cons_zero, List.set_cons_succ])
                refine wpAnyH_go (i := 15) (v := ?v4_15) rfl (by kernel_rfl) (by kernel_rfl) (by kernel_rfl) (fun _ _ _ h => h) (by rfl) ?hy4_15 (by assumption) ?rest4_15
                case hy4_15 => (intro w_ hSw; (try dsimp only at hSw); go_simp; (try (with_reducible rfl)))
                (try simp only [List.getElem_toArray, List.getElem_cons_zero, List.getElem_cons_succ, Act.put, List.setIfInBounds_toArray, List.set_cons_zero, List.set_cons_succ])
                refine wpAnyH_go (i := 16) (v := ?v4_16) rfl (by kernel_rfl) (by kernel_rfl) (by kernel_rfl) (fun _ _ _ h => h) (by rfl) ?hy4_16 (by assumption) ?rest4_16
                case hy4_16 => (intro w_ hSw; (try dsimp only at hSw); go_simp; (try (with_reducible rfl)))
                (try simp only [List.getElem_toArray, List.getElem_cons_zero, List.getElem_cons_succ, Act.put, List.setIfInBounds_toArray, List.set_cons_zero, List.set_cons_succ])
                refine wpAnyH_go (i := 17) (v := ?v4_17) rfl (by kernel_rfl) (by kernel_rfl) (by kernel_rfl) (fun _ _ _ h => h) (by rfl) ?hy4_17 (by assumption) ?rest4_17
                case hy4_17 => (intro w_ hSw; (try dsimp only at hSw); go_simp; (try (with_reducible rfl)))
                (try simp only [List.getElem_toArray, List.getElem_cons_zero, List.getElem_cons_succ, Act.put, List.setIfInBounds_toArray, List.set_cons_zero, List.set_cons_succ])
                refine wpAnyH_go (i := 18) (v := ?v4_18) rfl (by kernel_rfl) (by kernel_rfl) (by kernel_rfl) (fun _ _ _ h => h) (by rfl) ?hy4_18 (by assumption) ?rest4_18
                case hy4_18 => (intro w_ hSw; (try dsimp only at hSw); go_simp; (try (with_reducible rfl)))
                (try simp only [List.getElem_toArray, List.getElem_cons_zero, List.getElem_cons_succ, Act.put, List.setIfInBounds_toArray, List.set_cons_zero, List.set_cons_succ])
                refine wpAnyH_go (i := 19) (v := ?v4_19) rfl (by kernel_rfl) (by kernel_rfl) (by kernel_rfl) (fun _ _ _ h => h) (by rfl) ?hy4_19 (by assumption) ?rest4_19
                case hy4_19 => (intro w_ hSw; (try dsimp only at hSw); go_simp; (try (with_reducible rfl)))
                (try simp only [List.getElem_toArray, List.getElem_cons_zero, List.getElem_cons_succ, Act.put, List.setIfInBounds_toArray, List.set_cons_zero, List.set_cons_succ])
                refine wpAnyH_skip (i := 20) rfl (by kernel_rfl) (by kernel_rfl) (by kernel_rfl) (fun _ _ _ h => h) (by rfl) (by assumption) ?_
                (try simp only [List.getElem_toArray, List.getElem_cons_zero, List.getElem_cons_succ, Act.put, List.setIfInBounds_toArray, List.set_cons_zero, List.set_cons_succ])
                refine wpAnyH_skip (i := 21) rfl (by kernel_rfl) (by kernel_rfl) (by kernel_rfl) (fun _ _ _ h => h) (by rfl) (by assumption) ?_
                (try simp only [List.getElem_toArray, List.getElem_cons_zero, List.getElem_cons_succ, Act.put, List.setIfInBounds_toArray, List.set_cons_zero, List.set_cons_succ])
                refine wpAnyH_skip (i := 22) rfl (by kernel_rfl) (by kernel_rfl) (by kernel_rfl) (fun _ _ _ h => h) (by rfl) (by assumption) ?_
                (try simp only [List.getElem_toArray, List.getElem_cons_zero, List.getElem_cons_succ, Act.put, List.setIfInBounds_toArray, List.set_cons_zero, List.set_cons_succ])
                refine wpAnyH_skip (i := 23) rfl (by kernel_rfl) (by kernel_rfl) (by kernel_rfl) (fun _ _ _ h => h) (by rfl) (by assumption) ?_
                (try simp only [List.getElem_toArray, List.getElem_cons_zero, List.getElem_cons_succ, Act.put, List.setIfInBounds_toArray, List.set_cons_zero, List.set_cons_succ])
                refine wpAnyH_go (i := 24) (v := ?v4_24) rfl (by kernel_rfl) (by kernel_rfl) (by kernel_rfl) (fun _ _ _ h => h) (by rfl) ?hy4_24 (by assumption) ?rest4_24
                case hy4_24 => (intro w_ hSw; (try dsimp only at hSw); go_simp; (try (with_reducible rfl)))
                (try simp only [List.getElem_toArray, List.getElem_cons_zero, List.getElem_cons_succ, Act.put, List.setIfInBounds_toArray, List.set_cons_zero, List.set_cons_succ])
                refine wpAnyH_done (by kernel_rfl) ?_ _
                refine NoPanic.normal ?_
                all_goals (
                  go_wp2
                  go_ret
                  exact ⟨ret_bool HF.out.symm, hb.trans ((hbW.trans (Below.mono (by first | exact Below.refl _ _ | exact (Below.refl _ _).drew | exact below_drewN (Below.refl _ _) _ | exact bel) hq2)).mono hzr)⟩)
            · skip
              have hqn := fun W => i_NameOk nm W hnm
              simp only [hnok] at hqn
              have HQN := hide hqn
              clear hqn
              go_wp2
              have hk0 := blk_new wr (.cells #[.string nm, .int .i64 d, .int .i64 f, .slice A0 ss.length c0] 132)
              have hbW : Below wr.heap.size wr (wr.alloc (.cells #[.string nm, .int .i64 d, .int .i64 f, .slice A0 ss.length c0] 132)) := bel
              have hs0 := hss.alloc (by omega) (.cells #[.string nm, .int .i64 d, .int .i64 f, .slice A0 ss.length c0] 132)
              have hq1 : (ad.add (j * 4)).block < wr.heap.size := by rw [block_of_add]; omega
              have hpc0 := (World.cell?_alloc_lt wr (.cells #[.string nm, .int .i64 d, .int .i64 f, .slice A0 ss.length c0] 132) (ad.add (K * 4)) (by rw [block_of_add]; omega)).trans hpc; have hpq : (ad.add (K * 4)).block < wr.heap.size := (by rw [block_of_add]; omega)
              generalize (wr.alloc (.cells #[.string nm, .int .i64 d, .int .i64 f, .slice A0 ss.length c0] 132)) = w0 at *
              obtain ⟨hy0, hy1, hy2, hy3, hyl⟩ := blk4 hk0
              have hq2 : wr.heap.size ≤ w0.heap.size := hbW.size
              have hpq2 : (ad.add (K * 4)).block < w0.heap.size := by omega
              have hs0B := hs0.more (B' := w0.heap.size) (by omega)
              refine wp_region_noPanic ?_
              refine wp_region_held_drew (S := (fun W => (∀ p : Addr, p.block < w0.heap.size → W.cell? p = w0.cell? p) ∧ (∀ p : Addr, p.block < w0.heap.size → W.frozen? p = w0.frozen? p) ∧ Below w0.heap.size w0 W)) (by kernel_rfl) ?_ (fun hHeld => ?_)
              · exact (keep_ofP bel)
              refine wpAnyH_go (i := 0) (v := ?v5_0) rfl (by kernel_rfl) (by kernel_rfl) (by kernel_rfl) (fun _ _ _ h => h) (by rfl) ?hy5_0 (by assumption) ?rest5_0
              case hy5_0 => (intro w_ hSw; (try dsimp only at hSw); go_simp; (try (with_reducible rfl)))
              (try simp only [List.getElem_toArray, List.getElem_cons_zero, Act.put, List.setIfInBounds_toArray, List.set_cons_zero, List.set_cons_succ])
              refine wpAnyH_go (i := 1) (v := ?v5_1) rfl (by kernel_rfl) (by kernel_rfl) (by kernel_rfl) (fun _ _ _ h => h) (by rfl) ?hy5_1 (by assumption) ?rest5_1
              case hy5_1 => (intro w_ hSw; (try dsimp only at hSw); go_simp; (try (with_reducible rfl)))
              (try simp only [List.getElem_toArray, List.getElem_cons_zero, List.getElem_cons_succ, Act.put, List.setIfInBounds_toArray, List.set_cons_zero, List.set_cons_succ])
              refine wpAnyH_ready (rs := [2]) (by kernel_rfl) (by simp) ?_
              refine AllReadyH.cons rfl (fun K hK => ?_) AllReadyH.nil
              go_simp
              (refine (unhide HQN _).mono ?_; rintro e w' ⟨rfl, rfl⟩)
              (try (go_wp2_with fail))
              refine hK.out _ _ ?_ (fun hHeld => ?_)
              · exact (keep_ofP bel)
              clear hK K
              (try simp only [List.getElem_toArray, List.getElem_cons_zero, List.getElem_cons_succ, Act.put, List.setIfInBounds_toArray, List.set_cons_zero, List.set_cons_succ])
              refine wpAnyH_go (i := 3) (v := ?v5_3) rfl (by kernel_rfl) (by kernel_rfl) (by kernel_rfl) (fun _ _ _ h => h) (by rfl) ?hy5_3 (by assumption) ?rest5_3
              case hy5_3 => (intro w_ hSw; (try dsimp only at hSw); go_simp; (try (with_reducible rfl)))
              (try simp only [List.getElem_toArray, List.getElem_cons_zero, List.getElem_cons_succ, Act.put, List.setIfInBounds_toArray, List.set_cons_zero, List.set_cons_succ])
              refine wpAnyH_go (i := 4) (v := ?v5_4) rfl (by kernel_rfl) (by kernel_rfl) (by kernel_rfl) (fun _ _ _ h => h) (by rfl) ?hy5_4 (by assumption) ?rest5_4
              case hy5_4 => (intro w_ hSw; (try dsimp only at hSw); go_simp; (try (with_reducible rfl)))
              (try simp only [List.getElem_toArray, List.getElem_cons_zero, List.getElem_cons_succ, Act.put, List.setIfInBounds_toArray, List.set_cons_zero, List.set_cons_succ])
              refine wpAnyH_go (i := 5) (v := ?v5_5) rfl (by kernel_rfl) (by kernel_rfl) (by kernel_rfl) (fun _ _ _ h => h) (by rfl) ?hy5_5 (by assumption) ?rest5_5
              case hy5_5 => (intro w_ hSw; (try dsimp only at hSw); go_simp; (try (with_reducible rfl)))
              (try simp only [List.getElem_toArray, List.getElem_cons_zero, List.getElem_cons_succ, Act.put, List.setIfInBounds_toArray, List.set_cons_zero, List.set_cons_succ])
              refine wpAnyH_go (i := 6) (v := ?v5_6) rfl (by kernel_rfl) (by kernel_rfl) (by kernel_rfl) (fun _ _ _ h => h) (by rfl) ?hy5_6 (by assumption) ?rest5_6
              case hy5_6 => (intro w_ hSw; (try dsimp only at hSw); go_simp; (try (with_reducible rfl)))
              (try simp only [List.getElem_toArray, List.getElem_cons_zero, List.getElem_cons_succ, Act.put, List.setIfInBounds_toArray, List.set_cons_zero, List.set_cons_succ])
              refine wpAnyH_go (i := 7) (v := ?v5_7) rfl (by kernel_rfl) (by kernel_rfl) (by kernel_rfl) (fun _ _ _ h => h) (by rfl) ?hy5_7 (by assumption) ?rest5_7
              case hy5_7 => (intro w_ hSw; (try dsimp only at hSw); go_simp; (try (with_reducible rfl)))
              (try simp only [List.getElem_toArray, List.getElem_cons_zero, List.getElem_cons_succ, Act.put, List.setIfInBounds_toArray, List.set_cons_zero, List.set_cons_succ])
              refine wpAnyH_go (i := 8) (v := ?v5_8) rfl (by kernel_rfl) (by kernel_rfl) (by kernel_rfl) (fun _ _ _ h => h) (by rfl) ?hy5_8 (by assumption) ?rest5_8
              case hy5_8 => (intro w_ hSw; (try dsimp only at hSw); go_simp; (try (with_reducible rfl)))
              (try simp only [List.getElem_toArray, List.getElem_cons_zero, List.getElem_cons_succ, Act.put, List.setIfInBounds_toArray, List.set_cons_zero, List.set_cons_succ])
              refine wpAnyH_go (i := 9) (v := ?v5_9) rfl (by kernel_rfl) (by kernel_rfl) (by kernel_rfl) (fun _ _ _ h => h) (by rfl) ?hy5_9 (by assumption) ?rest5_9
              case hy5_9 => (intro w_ hSw; (try dsimp only at hSw); go_simp; (try (with_reducible rfl)))
              (try simp only [List.getElem_toArray, List.getElem_cons_zero, List.getElem_cons_succ, Act.put, List.setIfInBounds_toArray, List.set_cons_zero, List.set_cons_succ])
              refine wpAnyH_go (i := 10) (v := ?v5_10) rfl (by kernel_rfl) (by kernel_rfl) (by kernel_rfl) (fun _ _ _ h => h) (by rfl) ?hy5_10 (by assumption) ?rest5_10
              case hy5_10 => (intro w_ hSw; (try dsimp only at hSw); go_simp; (try (with_reducible rfl)))
              (try simp only [List.getElem_toArray, List.getElem_cons_zero, List.getElem_cons_succ, Act.put, List.setIfInBounds_toArray, List.set_cons_zero, List.set_cons_succ])
              refine wpAnyH_go (i := 11) (v := ?v5_11) rfl (by kernel_rfl) (by kernel_rfl) (by kernel_rfl) (fun _ _ _ h => h) (by rfl) ?hy5_11 (by assumption) ?rest5_11
              case hy5_11 => (intro w_ hSw; (try dsimp only at hSw); go_simp; (try (with_reducible rfl)))
              (try simp only [List.getElem_toArray, List.getElem_cons_zero, List.getElem_cons_succ, Act.put, List.setIfInBounds_toArray, List.set_cons_zero, List.set_cons_succ])
              refine wpAnyH_go (i := 12) (v := ?v5_12) rfl (by kernel_rfl) (by kernel_rfl) (by kernel_rfl) (fun _ _ _ h => h) (by rfl) ?hy5_12 (by assumption) ?rest5_12
              case hy5_12 => (intro w_ hSw; (try dsimp only at hSw); go_simp; (try (with_reducible rfl)))
              (try simp only [List.getElem_toArray, List.getElem_cons_zero, List.getElem_cons_succ, Act.put, List.setIfInBounds_toArray, List.set_cons_zero, List.set_cons_succ])
              refine wpAnyH_go (i := 13) (v := ?v5_13) rfl (by kernel_rfl) (by kernel_rfl) (by kernel_rfl) (fun _ _ _ h => h) (by rfl) ?hy5_13 (by assumption) ?rest5_13
              case hy5_13 => (intro w_ hSw; (try dsimp only at hSw); go_simp; (try (with_reducible rfl)))
              (try simp only [List.getElem_toArray, List.getElem_cons_zero, List.getElem_cons_succ, Act.put, List.setIfInBounds_toArray, List.set_cons_zero, List.set_cons_succ])
              refine wpAnyH_go (i := 14) (v := ?v5_14) rfl (by kernel_rfl) (by kernel_rfl) (by kernel_rfl) (fun _ _ _ h => h) (by rfl) ?hy5_14 (by assumption) ?rest5_14
              case hy5_14 => (intro w_ hSw; (try dsimp only at hSw); go_simp; (try (with_reducible rfl)))
              (try simp only [List.getElem_toArray, List.getElem_cons_zero, List.getElem_cons_succ, Act.put, List.setIfInBounds_toArray, List.set_cons_zero, List.set_cons_succ])
              refine wpAnyH_go (i := 15) (v := ?v5_15) rfl (by kernel_rfl) (by kernel_rfl) (by kernel_rfl) (fun _ _ _ h => h) (by rfl) ?hy5_15 (by assumption) ?rest5_15
              case hy5_15 => (intro w_ hSw; (try dsimp only at hSw); go_simp; (try (with_reducible rfl)))
              (try simp only [List.getElem_toArray, List.getElem_cons_zero, List.getElem_cons_succ, Act.put, List.setIfInBounds_toArray, List.set_cons_zero, List.set_cons_succ])
              refine wpAnyH_go (i := 16) (v := ?v5_16) rfl (by kernel_rfl) (by kernel_rfl) (by kernel_rfl) (fun _ _ _ h => h) (by rfl) ?hy5_16 (by assumption) ?rest5_16
              case hy5_16 => (intro w_ hSw; (try dsimp only at hSw); go_simp; (try (with_reducible rfl)))
              (try simp only [List.getElem_toArray, List.getElem_cons_zero, List.getElem_cons_succ, Act.put, List.setIfInBounds_toArray, List.set_cons_zero, List.set_cons_succ])
              refine wpAnyH_go (i := 17) (v := ?v5_17) rfl (by kernel_rfl) (by kernel_rfl) (by kernel_rfl) (fun _ _ _ h => h) (by rfl) ?hy5_17 (by assumption) ?rest5_17
              case hy5_17 => (intro w_ hSw; (try dsimp only at hSw); go_simp; (try (with_reducible rfl)))
              (try simp only [List.getElem_toArray, List.getElem_cons_zero, List.getElem_cons_succ, Act.put, List.setIfInBounds_toArray, List.set_cons_zero, List.set_cons_succ])
              refine wpAnyH_go (i := 18) (v := ?v5_18) rfl (by kernel_rfl) (by kernel_rfl) (by kernel_rfl) (fun _ _ _ h => h) (by rfl) ?hy5_18 (by assumption) ?rest5_18
              case hy5_18 => (intro w_ hSw; (try dsimp only at hSw); go_simp; (try (with_reducible rfl)))
              (try simp only [List.getElem_toArray, List.getElem_cons_zero, List.getElem_cons_succ, Act.put, List.setIfInBounds_toArray, List.set_cons_zero, List.set_cons_succ])
              refine wpAnyH_go (i := 19) (v := ?v5_19) rfl (by kernel_rfl) (by kernel_rfl) (by kernel_rfl) (fun _ _ _ h => h) (by rfl) ?hy5_19 (by assumption) ?rest5_19
              case hy5_19 => (intro w_ hSw; (try dsimp only at hSw); go_simp; (try (with_reducible rfl)))
              (try simp only [List.getElem_toArray, List.getElem_cons_zero, List.getElem_cons_succ, Act.put, List.setIfInBounds_toArray, List.set_cons_zero, List.set_cons_succ])
              refine wpAnyH_skip (i := 20) rfl (by kernel_rfl) (by kernel_rfl) (by kernel_rfl) (fun _ _ _ h => h) (by rfl) (by assumption) ?_
              (try simp only [List.getElem_toArray, List.getElem_cons_zero, List.getElem_cons_succ, Act.put, List.setIfInBounds_toArray, List.set_cons_zero, List.set_cons_succ])
              refine wpAnyH_skip (i := 21) rfl (by kernel_rfl) (by kernel_rfl) (by kernel_rfl) (fun _ _ _ h => h) (by rfl) (by assumption) ?_
              (try simp only [List.getElem_toArray, List.getElem_cons_zero, List.getElem_cons_succ, Act.put, List.setIfInBounds_toArray, List.set_cons_zero, List.set_cons_succ])
              refine wpAnyH_skip (i := 22) rfl (by kernel_rfl) (by kernel_rfl) (by kernel_rfl) (fun _ _ _ h => h) (by rfl) (by assumption) ?_
              (try simp only [List.getElem_toArray, List.getElem_cons_zero, List.getElem_cons_succ, Act.put, List.setIfInBounds_toArray, List.set_cons_zero, List.set_cons_succ])
              refine wpAnyH_skip (i := 23) rfl (by kernel_rfl) (by kernel_rfl) (by kernel_rfl) (fun _ _ _ h => h) (by rfl) (by assumption) ?_
              (try simp only [List.getElem_toArray, List.getElem_cons_zero, List.getElem_cons_succ, Act.put, List.setIfInBounds_toArray, List.set_cons_zero, List.set_cons_succ])
              refine wpAnyH_go (i := 24) (v := ?v5_24) rfl (by kernel_rfl) (by kernel_rfl) (by kernel_rfl) (fun _ _ _ h => h) (by rfl) ?hy5_24 (by assumption) ?rest5_24
              case hy5_24 => (intro w_ hSw; (try dsimp only at hSw); go_simp; (try (with_reducible rfl)))
              (try simp only [List.getElem_toArray, List.getElem_cons_zero, List.getElem_cons_succ, Act.put, List.setIfInBounds_toArray, List.set_cons_zero, List.set_cons_succ])
              refine wpAnyH_done (by kernel_rfl) ?_ _
              refine NoPanic.normal ?_
              all_goals (
                go_wp2
                go_ret
                exact ⟨ret_bool HF.out.symm, hb.trans ((hbW.trans (Below.mono (by first | exact Below.refl _ _ | exact (Below.refl _ _).drew | exact below_drewN (Below.refl _ _) _ | exact bel) hq2)).mono hzr)⟩)
        · by_cases hj0 : j = 0
          · have hjz : ¬ 0 < j := (by omega); have hdj : decide (0 < j) = false := (by simp [hj0]); have HJ0 := Lib.hid hj0; clear hj0
            have hqn := fun W => i_NameOk nm W hnm
            simp only [hnok] at hqn
            have HQN := hide hqn
            clear hqn
            go_wp2
            have hk0 := blk_new wr (.cells #[.string nm, .int .i64 d, .int .i64 f, .slice A0 ss.length c0] 132)
            have hbW : Below wr.heap.size wr (wr.alloc (.cells #[.string nm, .int .i64 d, .int .i64 f, .slice A0 ss.length c0] 132)) := bel
            have hs0 := hss.alloc (by omega) (.cells #[.string nm, .int .i64 d, .int .i64 f, .slice A0 ss.length c0] 132)
            have hq1 : (ad.add (j * 4)).block < wr.heap.size := by rw [block_of_add]; omega
            generalize (wr.alloc (.cells #[.string nm, .int .i64 d, .int .i64 f, .slice A0 ss.length c0] 132)) = w0 at *
            obtain ⟨hy0, hy1, hy2, hy3, hyl⟩ := blk4 hk0
            have hq2 : wr.heap.size ≤ w0.heap.size := hbW.size
            have hs0B := hs0.more (B' := w0.heap.size) (by omega)
            refine wp_region_noPanic ?_
            refine wp_region_held_drew (S := (fun W => (∀ p : Addr, p.block < w0.heap.size → W.cell? p = w0.cell? p) ∧ (∀ p : Addr, p.block < w0.heap.size → W.frozen? p = w0.frozen? p) ∧ Below w0.heap.size w0 W)) (by kernel_rfl) ?_ (fun hHeld => ?_)
            · exact (keep_ofP bel)
            refine wpAnyH_go (i := 0) (v := ?v6_0) rfl (by kernel_rfl) (by kernel_rfl) (by kernel_rfl) (fun _ _ _ h => h) (by rfl) ?hy6_0 (by assumption) ?rest6_0
            case hy6_0 => (intro w_ hSw; (try dsimp only at hSw); go_simp; (try (with_reducible rfl)))
            (try simp only [List.getElem_toArray, List.getElem_cons_zero, Act.put, List.setIfInBounds_toArray, List.set_cons_zero, List.set_cons_succ])
            refine wpAnyH_go (i := 1) (v := ?v6_1) rfl (by kernel_rfl) (by kernel_rfl) (by kernel_rfl) (fun _ _ _ h => h) (by rfl) ?hy6_1 (by assumption) ?rest6_1
            case hy6_1 => (intro w_ hSw; (try dsimp only at hSw); go_simp; (try (with_reducible rfl)))
            (try simp only [List.getElem_toArray, List.getElem_cons_zero, List.getElem_cons_succ, Act.put, List.setIfInBounds_toArray, List.set_cons_zero, List.set_cons_succ])
            refine wpAnyH_ready (rs := [2]) (by kernel_rfl) (by simp) ?_
            refine AllReadyH.cons rfl (fun K hK => ?_) AllReadyH.nil
            go_simp
            (refine (unhide HQN _).mono ?_; rintro e w' ⟨rfl, rfl⟩)
            (try (go_wp2_with fail))
            refine hK.out _ _ ?_ (fun hHeld => ?_)
            · exact (keep_ofP bel)
            clear hK K
            (try simp only [List.getElem_toArray, List.getElem_cons_zero, List.getElem_cons_succ, Act.put, List.setIfInBounds_toArray, List.set_cons_zero, List.set_cons_succ])
            refine wpAnyH_go (i := 3) (v := ?v6_3) rfl (by kernel_rfl) (by kernel_rfl) (by kernel_rfl) (fun _ _ _ h => h) (by rfl) ?hy6_3 (by assumption) ?rest6_3
            case hy6_3 => (intro w_ hSw; (try dsimp only at hSw); go_simp; (try (with_reducible rfl)))
            (try simp only [List.getElem_toArray, List.getElem_cons_zero, List.getElem_cons_succ, Act.put, List.setIfInBounds_toArray, List.set_cons_zero, List.set_cons_succ])
            refine wpAnyH_go (i := 4) (v := ?v6_4) rfl (by kernel_rfl) (by kernel_rfl) (by kernel_rfl) (fun _ _ _ h => h) (by rfl) ?hy6_4 (by assumption) ?rest6_4
            case hy6_4 => (intro w_ hSw; (try dsimp only at hSw); go_simp; (try (with_reducible rfl)))
            (try simp only [List.getElem_toArray, List.getElem_cons_zero, List.getElem_cons_succ, Act.put, List.setIfInBounds_toArray, List.set_cons_zero, List.set_cons_succ])
            refine wpAnyH_go (i := 5) (v := ?v6_5) rfl (by kernel_rfl) (by kernel_rfl) (by kernel_rfl) (fun _ _ _ h => h) (by rfl) ?hy6_5 (by assumption) ?rest6_5
            case hy6_5 => (intro w_ hSw; (try dsimp only at hSw); go_simp; (try (with_reducible rfl)))
            (try simp only [List.getElem_toArray, List.getElem_cons_zero, List.getElem_cons_succ, Act.put, List.setIfInBounds_toArray, List.set_cons_zero, List.set_cons_succ])
            refine wpAnyH_go (i := 6) (v := ?v6_6) rfl (by kernel_rfl) (by kernel_rfl) (by kernel_rfl) (fun _ _ _ h => h) (by rfl) ?hy6_6 (by assumption) ?rest6_6
            case hy6_6 => (intro w_ hSw; (try dsimp only at hSw); go_simp; (try (with_reducible rfl)))
            (try simp only [List.getElem_toArray, List.getElem_cons_zero, List.getElem_cons_succ, Act.put, List.setIfInBounds_toArray, List.set_cons_zero, List.set_cons_succ])
            refine wpAnyH_go (i := 7) (v := ?v6_7) rfl (by kernel_rfl) (by kernel_rfl) (by kernel_rfl) (fun _ _ _ h => h) (by rfl) ?hy6_7 (by assumption) ?rest6_7
            case hy6_7 => (intro w_ hSw; (try dsimp only at hSw); go_simp; (try (with_reducible rfl)))
            (try simp only [List.getElem_toArray, List.getElem_cons_zero, List.getElem_cons_succ, Act.put, List.setIfInBounds_toArray, List.set_cons_zero, List.set_cons_succ])
            refine wpAnyH_skip (i := 8) rfl (by kernel_rfl) (by kernel_rfl) (by kernel_rfl) (fun _ _ _ h => h) (by rfl) (by assumption) ?_
            (try simp only [List.getElem_toArray, List.getElem_cons_zero, List.getElem_cons_succ, Act.put, List.setIfInBounds_toArray, List.set_cons_zero, List.set_cons_succ])
            refine wpAnyH_skip (i := 9) rfl (by kernel_rfl) (by kernel_rfl) (by kernel_rfl) (fun _ _ _ h => h) (by rfl) (by assumption) ?_
            (try simp only [List.getElem_toArray, List.getElem_cons_zero, List.getElem_cons_succ, Act.put, List.setIfInBounds_toArray, List.set_cons_zero, List.set_cons_succ])
            refine wpAnyH_skip (i := 10) rfl (by kernel_rfl) (by kernel_rfl) (by kernel_rfl) (fun _ _ _ h => h) (by rfl) (by assumption) ?_
            (try simp only [List.getElem_toArray, List.getElem_cons_zero, List.getElem_cons_succ, Act.put, List.setIfInBounds_toArray, List.set_cons_zero, List.set_cons_succ])
            refine wpAnyH_skip (i := 11) rfl (by kernel_rfl) (by kernel_rfl) (by kernel_rfl) (fun _ _ _ h => h) (by rfl) (by assumption) ?_
            (try simp only [List.getElem_toArray, List.getElem_cons_zero, List.getElem_cons_succ, Act.put, List.setIfInBounds_toArray, List.set_cons_zero, List.set_cons_succ])
            refine wpAnyH_skip (i := 12) rfl (by kernel_rfl) (by kernel_rfl) (by kernel_rfl) (fun _ _ _ h => h) (by rfl) (by assumption) ?_
            (try simp only [List.getElem_toArray, List.getElem_cons_zero, List.getElem_cons_succ, Act.put, List.setIfInBounds_toArray, List.set_cons_zero, List.set_cons_succ])
            refine wpAnyH_skip (i := 13) rfl (by kernel_rfl) (by kernel_rfl) (by kernel_rfl) (fun _ _ _ h => h) (by rfl) (by assumption) ?_
            (try simp only [List.getElem_toArray, List.getElem_cons_zero, List.getElem_cons_succ, Act.put, List.setIfInBounds_toArray, List.set_cons_zero, List.set_cons_succ])
            refine wpAnyH_skip (i := 14) rfl (by kernel_rfl) (by kernel_rfl) (by kernel_rfl) (fun _ _ _ h => h) (by rfl) (by assumption) ?_
            (try simp only [List.getElem_toArray, List.getElem_cons_zero, List.getElem_cons_succ, Act.put, List.setIfInBounds_toArray, List.set_cons_zero, List.set_cons_succ])
            refine wpAnyH_skip (i := 15) rfl (by kernel_rfl) (by kernel_rfl) (by kernel_rfl) (fun _ _ _ h => h) (by rfl) (by assumption) ?_
            (try simp only [List.getElem_toArray, List.getElem_cons_zero, List.getElem_cons_succ, Act.put, List.setIfInBounds_toArray, List.set_cons_zero, List.set_cons_succ])
            refine wpAnyH_skip (i := 16) rfl (by kernel_rfl) (by kernel_rfl) (by kernel_rfl) (fun _ _ _ h => h) (by rfl) (by assumption) ?_
            (try simp only [List.getElem_toArray, List.getElem_cons_zero, List.getElem_cons_succ, Act.put, List.setIfInBounds_toArray, List.set_cons_zero, List.set_cons_succ])
            refine wpAnyH_go (i := 17) (v := ?v6_17) rfl (by kernel_rfl) (by kernel_rfl) (by kernel_rfl) (fun _ _ _ h => h) (by rfl) ?hy6_17 (by assumption) ?rest6_17
            case hy6_17 => (intro w_ hSw; (try dsimp only at hSw); go_simp; (try (with_reducible rfl)))
            (try simp only [List.getElem_toArray, List.getElem_cons_zero, List.getElem_cons_succ, Act.put, List.setIfInBounds_toArray, List.set_cons_zero, List.set_cons_succ])
            refine wpAnyH_go (i := 18) (v := ?v6_18) rfl (by kernel_rfl) (by kernel_rfl) (by kernel_rfl) (fun _ _ _ h => h) (by rfl) ?hy6_18 (by assumption) ?rest6_18
            case hy6_18 => (intro w_ hSw; (try dsimp only at hSw); go_simp; (try (with_reducible rfl)))
            (try simp only [List.getElem_toArray, List.getElem_cons_zero, List.getElem_cons_succ, Act.put, List.setIfInBounds_toArray, List.set_cons_zero, List.set_cons_succ])
            refine wpAnyH_go (i := 19) (v := ?v6_19) rfl (by kernel_rfl) (by kernel_rfl) (by kernel_rfl) (fun _ _ _ h => h) (by rfl) ?hy6_19 (by assumption) ?rest6_19
            case hy6_19 => (intro w_ hSw; (try dsimp only at hSw); go_simp; (try (with_reducible rfl)))
            (try simp only [List.getElem_toArray, List.getElem_cons_zero, List.getElem_cons_succ, Act.put, List.setIfInBounds_toArray, List.set_cons_zero, List.set_cons_succ])
            refine wpAnyH_go (i := 20) (v := ?v6_20) rfl (by kernel_rfl) (by kernel_rfl) (by kernel_rfl) (fun _ _ _ h => h) (by rfl) ?hy6_20 (by assumption) ?rest6_20
            case hy6_20 => (intro w_ hSw; (try dsimp only at hSw); go_simp; (try (with_reducible rfl)))
            (try simp only [List.getElem_toArray, List.getElem_cons_zero, List.getElem_cons_succ, Act.put, List.setIfInBounds_toArray, List.set_cons_zero, List.set_cons_succ])
            refine wpAnyH_go (i := 21) (v := ?v6_21) rfl (by kernel_rfl) (by kernel_rfl) (by kernel_rfl) (fun _ _ _ h => h) (by rfl) ?hy6_21 (by assumption) ?rest6_21
            case hy6_21 => (intro w_ hSw; (try dsimp only at hSw); go_simp; (try (with_reducible rfl)))
            (try simp only [List.getElem_toArray, List.getElem_cons_zero, List.getElem_cons_succ, Act.put, List.setIfInBounds_toArray, List.set_cons_zero, List.set_cons_succ])
            refine wpAnyH_ready (rs := [22]) (by kernel_rfl) (by simp) ?_
            refine AllReadyH.cons rfl (fun K hK => ?_) AllReadyH.nil
            go_simp
            (have hq := (‹_ ∧ _ ∧ Below _ _ _›).2.2; refine (i_CardOk d f _ _ _ ss _ ?_).mono ?_; exact (hs0B.below hq).more hq.size; rw [hck]; rintro e w2 ⟨rfl, hb2⟩)
            (try (go_wp2_with fail))
            refine hK.out _ _ ?_ (fun hHeld => ?_)
            · exact (keep_ofP bel)
            clear hK K
            (try simp only [List.getElem_toArray, List.getElem_cons_zero, List.getElem_cons_succ, Act.put, List.setIfInBounds_toArray, List.set_cons_zero, List.set_cons_succ])
            refine wpAnyH_go (i := 23) (v := ?v6_23) rfl (by kernel_rfl) (by kernel_rfl) (by kernel_rfl) (fun _ _ _ h => h) (by rfl) ?hy6_23 (by assumption) ?rest6_23
            case hy6_23 => (intro w_ hSw; (try dsimp only at hSw); go_simp; (try (with_reducible rfl)))
            (try simp only [List.getElem_toArray, List.getElem_cons_zero, List.getElem_cons_succ, Act.put, List.setIfInBounds_toArray, List.set_cons_zero, List.set_cons_succ])
            refine wpAnyH_go (i := 24) (v := ?v6_24) rfl (by kernel_rfl) (by kernel_rfl) (by kernel_rfl) (fun _ _ _ h => h) (by rfl) ?hy6_24 (by assumption) ?rest6_24
            case hy6_24 => (intro w_ hSw; (try dsimp only at hSw); go_simp; (try (with_reducible rfl)))
            (try simp only [List.getElem_toArray, List.getElem_cons_zero, List.getElem_cons_succ, Act.put, List.setIfInBounds_toArray, List.set_cons_zero, List.set_cons_succ])
            refine wpAnyH_done (by kernel_rfl) ?_ _
            refine NoPanic.normal ?_
            all_goals (
              go_wp2
              go_roundw
              case rel => exact ⟨j + 1, by omega, by go_num, all_range_succ HA.out (by rw [itGood_z HJ0.out HX.out]; simp [hnok, hck]), hb.trans ((hbW.trans (Below.mono (by first | exact hb2 | exact (Below.refl _ _).drew.trans hb2 | exact below_drewN hb2 _ | exact (below_drewN (Below.refl _ _) _).trans hb2 | exact bel) hq2)).mono hzr)⟩
              case measure => simp [intOf]; omega)
          · obtain ⟨K, hK⟩ : ∃ K, j = K + 1 := ⟨j - 1, by omega⟩; obtain ⟨hkq, adq, hade, habq, hq0, hq1_, hq2_, hq3_, hssq, hnmq⟩ := hSr.at_ (k := K) (by omega)
            have hKn : K < n := by omega
            have HK := Lib.hid hK
            have hwk : IntKind.i64.wrap ((j : Int) - 1) = K := by rw [show (j : Int) - 1 = (K : Int) by omega, IntWalk.i64_in _ (by omega)]
            have hjp : 0 < j := by omega
            have hdj : decide (0 < j) = true := by simp [hjp]
            have hkn1 : (0 : Int) ≤ (K : Int) := by omega
            have hkn2 : (K : Int) < n := by omega
            clear hK hj0
            have hadq : adq = ad := by injection hade with h; exact h.symm
            rw [hadq] at hq0
            clear hq1_ hq2_ hq3_ hssq hade habq hadq
            have HXP := Lib.hid (show P[K]? = some L[K].x by rw [← HP.out]; exact plI_at hkq)
            obtain ⟨nq, hnq⟩ : ∃ a, a = L[K].x.nm := ⟨_, rfl⟩
            rw [← hnq] at hq0 hnmq
            have hpc := hq0
            have HNQ := Lib.hid hnq
            clear hq0 hnq
            cases hl1 : Op.bytesLess nm.toList nq.toList
            · cases hl2 : (nm.toList == nq.toList)
              · skip
                have hqn := fun W => i_NameOk nm W hnm
                simp only [hnok] at hqn
                have HQN := hide hqn
                clear hqn
                go_wp2
                have hk0 := blk_new wr (.cells #[.string nm, .int .i64 d, .int .i64 f, .slice A0 ss.length c0] 132)
                have hbW : Below wr.heap.size wr (wr.alloc (.cells #[.string nm, .int .i64 d, .int .i64 f, .slice A0 ss.length c0] 132)) := bel
                have hs0 := hss.alloc (by omega) (.cells #[.string nm, .int .i64 d, .int .i64 f, .slice A0 ss.length c0] 132)
                have hq1 : (ad.add (j * 4)).block < wr.heap.size := by rw [block_of_add]; omega
                have hpc0 := (World.cell?_alloc_lt wr (.cells #[.string nm, .int .i64 d, .int .i64 f, .slice A0 ss.length c0] 132) (ad.add (K * 4)) (by rw [block_of_add]; omega)).trans hpc; have hpq : (ad.add (K * 4)).block < wr.heap.size := (by rw [block_of_add]; omega)
                generalize (wr.alloc (.cells #[.string nm, .int .i64 d, .int .i64 f, .slice A0 ss.length c0] 132)) = w0 at *
                obtain ⟨hy0, hy1, hy2, hy3, hyl⟩ := blk4 hk0
                have hq2 : wr.heap.size ≤ w0.heap.size := hbW.size
                have hpq2 : (ad.add (K * 4)).block < w0.heap.size := by omega
                have hs0B := hs0.more (B' := w0.heap.size) (by omega)
                refine wp_region_noPanic ?_
                refine wp_region_held_drew (S := (fun W => (∀ p : Addr, p.block < w0.heap.size → W.cell? p = w0.cell? p) ∧ (∀ p : Addr, p.block < w0.heap.size → W.frozen? p = w0.frozen? p) ∧ Below w0.heap.size w0 W)) (by kernel_rfl) ?_ (fun hHeld => ?_)
                · exact (keep_ofP bel)
                refine wpAnyH_go (i := 0) (v := ?v7_0) rfl (by kernel_rfl) (by kernel_rfl) (by kernel_rfl) (fun _ _ _ h => h) (by rfl) ?hy7_0 (by assumption) ?rest7_0
                case hy7_0 => (intro w_ hSw; (try dsimp only at hSw); go_simp; (try (with_reducible rfl)))
                (try simp only [List.getElem_toArray, List.getElem_cons_zero, Act.put, List.setIfInBounds_toArray, List.set_cons_zero, List.set_cons_succ])
                refine wpAnyH_go (i := 1) (v := ?v7_1) rfl (by kernel_rfl) (by kernel_rfl) (by kernel_rfl) (fun _ _ _ h => h) (by rfl) ?hy7_1 (by assumption) ?rest7_1
                case hy7_1 => (intro w_ hSw; (try dsimp only at hSw); go_simp; (try (with_reducible rfl)))
                (try simp only [List.getElem_toArray, List.getElem_cons_zero, List.getElem_cons_succ, Act.put, List.setIfInBounds_toArray, List.set_cons_zero, List.set_cons_succ])
                refine wpAnyH_ready (rs := [2]) (by kernel_rfl) (by simp) ?_
                refine AllReadyH.cons rfl (fun K hK => ?_) AllReadyH.nil
                go_simp
                (refine (unhide HQN _).mono ?_; rintro e w' ⟨rfl, rfl⟩)
                (try (go_wp2_with fail))
                refine hK.out _ _ ?_ (fun hHeld => ?_)
                · exact (keep_ofP bel)
                clear hK K
                (try simp only [List.getElem_toArray, List.getElem_cons_zero, List.getElem_cons_succ, Act.put, List.setIfInBounds_toArray, List.set_cons_zero, List.set_cons_succ])
                refine wpAnyH_go (i := 3) (v := ?v7_3) rfl (by kernel_rfl) (by kernel_rfl) (by kernel_rfl) (fun _ _ _ h => h) (by rfl) ?hy7_3 (by assumption) ?rest7_3
                case hy7_3 => (intro w_ hSw; (try dsimp only at hSw); go_simp; (try (with_reducible rfl)))
                (try simp only [List.getElem_toArray, List.getElem_cons_zero, List.getElem_cons_succ, Act.put, List.setIfInBounds_toArray, List.set_cons_zero, List.set_cons_succ])
                refine wpAnyH_go (i := 4) (v := ?v7_4) rfl (by kernel_rfl) (by kernel_rfl) (by kernel_rfl) (fun _ _ _ h => h) (by rfl) ?hy7_4 (by assumption) ?rest7_4
                case hy7_4 => (intro w_ hSw; (try dsimp only at hSw); go_simp; (try (with_reducible rfl)))
                (try simp only [List.getElem_toArray, List.getElem_cons_zero, List.getElem_cons_succ, Act.put, List.setIfInBounds_toArray, List.set_cons_zero, List.set_cons_succ])
                refine wpAnyH_go (i := 5) (v := ?v7_5) rfl (by kernel_rfl) (by kernel_rfl) (by kernel_rfl) (fun _ _ _ h => h) (by rfl) ?hy7_5 (by assumption) ?rest7_5
                case hy7_5 => (intro w_ hSw; (try dsimp only at hSw); go_simp; (try (with_reducible rfl)))
                (try simp only [List.getElem_toArray, List.getElem_cons_zero, List.getElem_cons_succ, Act.put, List.setIfInBounds_toArray, List.set_cons_zero, List.set_cons_succ])
                refine wpAnyH_go (i := 6) (v := ?v7_6) rfl (by kernel_rfl) (by kernel_rfl) (by kernel_rfl) (fun _ _ _ h => h) (by rfl) ?hy7_6 (by assumption) ?rest7_6
                case hy7_6 => (intro w_ hSw; (try dsimp only at hSw); go_simp; (try (with_reducible rfl)))
                (try simp only [List.getElem_toArray, List.getElem_cons_zero, List.getElem_cons_succ, Act.put, List.setIfInBounds_toArray, List.set_cons_zero, List.set_cons_succ])
                refine wpAnyH_go (i := 7) (v := ?v7_7) rfl (by kernel_rfl) (by kernel_rfl) (by kernel_rfl) (fun _ _ _ h => h) (by rfl) ?hy7_7 (by assumption) ?rest7_7
                case hy7_7 => (intro w_ hSw; (try dsimp only at hSw); go_simp; (try (with_reducible rfl)))
                (try simp only [List.getElem_toArray, List.getElem_cons_zero, List.getElem_cons_succ, Act.put, List.setIfInBounds_toArray, List.set_cons_zero, List.set_cons_succ])
                refine wpAnyH_go (i := 8) (v := ?v7_8) rfl (by kernel_rfl) (by kernel_rfl) (by kernel_rfl) (fun _ _ _ h => h) (by rfl) ?hy7_8 (by assumption) ?rest7_8
                case hy7_8 => (intro w_ hSw; (try dsimp only at hSw); go_simp; (try (with_reducible rfl)))
                (try simp only [List.getElem_toArray, List.getElem_cons_zero, List.getElem_cons_succ, Act.put, List.setIfInBounds_toArray, List.set_cons_zero, List.set_cons_succ])
                refine wpAnyH_go (i := 9) (v := ?v7_9) rfl (by kernel_rfl) (by kernel_rfl) (by kernel_rfl) (fun _ _ _ h => h) (by rfl) ?hy7_9 (by assumption) ?rest7_9
                case hy7_9 => (intro w_ hSw; (try dsimp only at hSw); go_simp; (try (with_reducible rfl)))
                (try simp only [List.getElem_toArray, List.getElem_cons_zero, List.getElem_cons_succ, Act.put, List.setIfInBounds_toArray, List.set_cons_zero, List.set_cons_succ])
                refine wpAnyH_go (i := 10) (v := ?v7_10) rfl (by kernel_rfl) (by kernel_rfl) (by kernel_rfl) (fun _ _ _ h => h) (by rfl) ?hy7_10 (by assumption) ?rest7_10
                case hy7_10 => (intro w_ hSw; (try dsimp only at hSw); go_simp; (try (with_reducible rfl)))
                (try simp only [List.getElem_toArray, List.getElem_cons_zero, List.getElem_cons_succ, Act.put, List.setIfInBounds_toArray, List.set_cons_zero, List.set_cons_succ])
                refine wpAnyH_go (i := 11) (v := ?v7_11) rfl (by kernel_rfl) (by kernel_rfl) (by kernel_rfl) (fun _ _ _ h => h) (by rfl) ?hy7_11 (by assumption) ?rest7_11
                case hy7_11 => (intro w_ hSw; (try dsimp only at hSw); go_simp; (try (with_reducible rfl)))
                (try simp only [List.getElem_toArray, List.getElem_cons_zero, List.getElem_cons_succ, Act.put, List.setIfInBounds_toArray, List.set_cons_zero, List.set_cons_succ])
                refine wpAnyH_go (i := 12) (v := ?v7_12) rfl (by kernel_rfl) (by kernel_rfl) (by kernel_rfl) (fun _ _ _ h => h) (by rfl) ?hy7_12 (by assumption) ?rest7_12
                case hy7_12 => (intro w_ hSw; (try dsimp only at hSw); go_simp; (try (with_reducible rfl)))
                (try simp only [List.getElem_toArray, List.getElem_cons_zero, List.getElem_cons_succ, Act.put, List.setIfInBounds_toArray, List.set_cons_zero, List.set_cons_succ])
                refine wpAnyH_go (i := 13) (v := ?v7_13) rfl (by kernel_rfl) (by kernel_rfl) (by kernel_rfl) (fun _ _ _ h => h) (by rfl) ?hy7_13 (by assumption) ?rest7_13
                case hy7_13 => (intro w_ hSw; (try dsimp only at hSw); go_simp; (try (with_reducible rfl)))
                (try simp only [List.getElem_toArray, List.getElem_cons_zero, List.getElem_cons_succ, Act.put, List.setIfInBounds_toArray, List.set_cons_zero, List.set_cons_succ])
                refine wpAnyH_go (i := 14) (v := ?v7_14) rfl (by kernel_rfl) (by kernel_rfl) (by kernel_rfl) (fun _ _ _ h => h) (by rfl) ?hy7_14 (by assumption) ?rest7_14
                case hy7_14 => (intro w_ hSw; (try dsimp only at hSw); go_simp; (try (with_reducible rfl)))
                (try simp only [List.getElem_toArray, List.getElem_cons_zero, List.getElem_cons_succ, Act.put, List.setIfInBounds_toArray, List.set_cons_zero, List.set_cons_succ])
                refine wpAnyH_go (i := 15) (v := ?v7_15) rfl (by kernel_rfl) (by kernel_rfl) (by kernel_rfl) (fun _ _ _ h => h) (by rfl) ?hy7_15 (by assumption) ?rest7_15
                case hy7_15 => (intro w_ hSw; (try dsimp only at hSw); go_simp; (try (with_reducible rfl)))
                (try simp only [List.getElem_toArray, List.getElem_cons_zero, List.getElem_cons_succ, Act.put, List.setIfInBounds_toArray, List.set_cons_zero, List.set_cons_succ])
                refine wpAnyH_go (i := 16) (v := ?v7_16) rfl (by kernel_rfl) (by kernel_rfl) (by kernel_rfl) (fun _ _ _ h => h) (by rfl) ?hy7_16 (by assumption) ?rest7_16
                case hy7_16 => (intro w_ hSw; (try dsimp only at hSw); go_simp; (try (with_reducible rfl)))
                (try simp only [List.getElem_toArray, List.getElem_cons_zero, List.getElem_cons_succ, Act.put, List.setIfInBounds_toArray, List.set_cons_zero, List.set_cons_succ])
                refine wpAnyH_go (i := 17) (v := ?v7_17) rfl (by kernel_rfl) (by kernel_rfl) (by kernel_rfl) (fun _ _ _ h => h) (by rfl) ?hy7_17 (by assumption) ?rest7_17
                case hy7_17 => (intro w_ hSw; (try dsimp only at hSw); go_simp; (try (with_reducible rfl)))
                (try simp only [List.getElem_toArray, List.getElem_cons_zero, List.getElem_cons_succ, Act.put, List.setIfInBounds_toArray, List.set_cons_zero, List.set_cons_succ])
                refine wpAnyH_go (i := 18) (v := ?v7_18) rfl (by kernel_rfl) (by kernel_rfl) (by kernel_rfl) (fun _ _ _ h => h) (by rfl) ?hy7_18 (by assumption) ?rest7_18
                case hy7_18 => (intro w_ hSw; (try dsimp only at hSw); go_simp; (try (with_reducible rfl)))
                (try simp only [List.getElem_toArray, List.getElem_cons_zero, List.getElem_cons_succ, Act.put, List.setIfInBounds_toArray, List.set_cons_zero, List.set_cons_succ])
                refine wpAnyH_go (i := 19) (v := ?v7_19) rfl (by kernel_rfl) (by kernel_rfl) (by kernel_rfl) (fun _ _ _ h => h) (by rfl) ?hy7_19 (by assumption) ?rest7_19
                case hy7_19 => (intro w_ hSw; (try dsimp only at hSw); go_simp; (try (with_reducible rfl)))
                (try simp only [List.getElem_toArray, List.getElem_cons_zero, List.getElem_cons_succ, Act.put, List.setIfInBounds_toArray, List.set_cons_zero, List.set_cons_succ])
                refine wpAnyH_go (i := 20) (v := ?v7_20) rfl (by kernel_rfl) (by kernel_rfl) (by kernel_rfl) (fun _ _ _ h => h) (by rfl) ?hy7_20 (by assumption) ?rest7_20
                case hy7_20 => (intro w_ hSw; (try dsimp only at hSw); go_simp; (try (with_reducible rfl)))
                (try simp only [List.getElem_toArray, List.getElem_cons_zero, List.getElem_cons_succ, Act.put, List.setIfInBounds_toArray, List.set_cons_zero, List.set_cons_succ])
                refine wpAnyH_go (i := 21) (v := ?v7_21) rfl (by kernel_rfl) (by kernel_rfl) (by kernel_rfl) (fun _ _ _ h => h) (by rfl) ?hy7_21 (by assumption) ?rest7_21
                case hy7_21 => (intro w_ hSw; (try dsimp only at hSw); go_simp; (try (with_reducible rfl)))
                (try simp only [List.getElem_toArray, List.getElem_cons_zero, List.getElem_cons_succ, Act.put, List.setIfInBounds_toArray, List.set_cons_zero, List.set_cons_succ])
                refine wpAnyH_ready (rs := [22]) (by kernel_rfl) (by simp) ?_
                refine AllReadyH.cons rfl (fun K hK => ?_) AllReadyH.nil
                go_simp
                (have hq := (‹_ ∧ _ ∧ Below _ _ _›).2.2; refine (i_CardOk d f _ _ _ ss _ ?_).mono ?_; exact (hs0B.below hq).more hq.size; rw [hck]; rintro e w2 ⟨rfl, hb2⟩)
                (try (go_wp2_with fail))
                refine hK.out _ _ ?_ (fun hHeld => ?_)
                · exact (keep_ofP bel)
                clear hK K
                (try simp only [List.getElem_toArray, List.getElem_cons_zero, List.getElem_cons_succ, Act.put, List.setIfInBounds_toArray, List.set_cons_zero, List.set_cons_succ])
                refine wpAnyH_go (i := 23) (v := ?v7_23) rfl (by kernel_rfl) (by kernel_rfl) (by kernel_rfl) (fun _ _ _ h => h) (by rfl) ?hy7_23 (by assumption) ?rest7_23
                case hy7_23 => (intro w_ hSw; (try dsimp only at hSw); go_simp; (try (with_reducible rfl)))
                (try simp only [List.getElem_toArray, List.getElem_cons_zero, List.getElem_cons_succ, Act.put, List.setIfInBounds_toArray, List.set_cons_zero, List.set_cons_succ])
                refine wpAnyH_go (i := 24) (v := ?v7_24) rfl (by kernel_rfl) (by kernel_rfl) (by kernel_rfl) (fun _ _ _ h => h) (by rfl) ?hy7_24 (by assumption) ?rest7_24
                case hy7_24 => (intro w_ hSw; (try dsimp only at hSw); go_simp; (try (with_reducible rfl)))
                (try simp only [List.getElem_toArray, List.getElem_cons_zero, List.getElem_cons_succ, Act.put, List.setIfInBounds_toArray, List.set_cons_zero, List.set_cons_succ])
                refine wpAnyH_done (by kernel_rfl) ?_ _
                refine NoPanic.normal ?_
                all_goals (
                  go_wp2
                  go_roundw
                  case rel => exact ⟨j + 1, by omega, by go_num, all_range_succ HA.out (by rw [itGood_j HK.out HX.out HXP.out]; simp [hnok, hck, nmLe, ← HNQ.out, hl1, hl2]), hb.trans ((hbW.trans (Below.mono (by first | exact hb2 | exact (Below.refl _ _).drew.trans hb2 | exact below_drewN hb2 _ | exact (below_drewN (Below.refl _ _) _).trans hb2 | exact bel) hq2)).mono hzr)⟩
                  case measure => simp [intOf]; omega)
              · have HF := Lib.hid (catOk_no (unhide HKP) (by rw [itGood_j HK.out HX.out HXP.out]; simp [nmLe, ← HNQ.out, hl1, hl2]))
                have hqn := fun W => i_NameOk nm W hnm
                simp only [hnok] at hqn
                have HQN := hide hqn
                clear hqn
                go_wp2
                have hk0 := blk_new wr (.cells #[.string nm, .int .i64 d, .int .i64 f, .slice A0 ss.length c0] 132)
                have hbW : Below wr.heap.size wr (wr.alloc (.cells #[.string nm, .int .i64 d, .int .i64 f, .slice A0 ss.length c0] 132)) := bel
                have hs0 := hss.alloc (by omega) (.cells #[.string nm, .int .i64 d, .int .i64 f, .slice A0 ss.length c0] 132)
                have hq1 : (ad.add (j * 4)).block < wr.heap.size := by rw [block_of_add]; omega
                have hpc0 := (World.cell?_alloc_lt wr (.cells #[.string nm, .int .i64 d, .int .i64 f, .slice A0 ss.length c0] 132) (ad.add (K * 4)) (by rw [block_of_add]; omega)).trans hpc; have hpq : (ad.add (K * 4)).block < wr.heap.size := (by rw [block_of_add]; omega)
                generalize (wr.alloc (.cells #[.string nm, .int .i64 d, .int .i64 f, .slice A0 ss.length c0] 132)) = w0 at *
                obtain ⟨hy0, hy1, hy2, hy3, hyl⟩ := blk4 hk0
                have hq2 : wr.heap.size ≤ w0.heap.size := hbW.size
                have hpq2 : (ad.add (K * 4)).block < w0.heap.size := by omega
                have hs0B := hs0.more (B' := w0.heap.size) (by omega)
                refine wp_region_noPanic ?_
                refine wp_region_held_drew (S := (fun W => (∀ p : Addr, p.block < w0.heap.size → W.cell? p = w0.cell? p) ∧ (∀ p : Addr, p.block < w0.heap.size → W.frozen? p = w0.frozen? p) ∧ Below w0.heap.size w0 W)) (by kernel_rfl) ?_ (fun hHeld => ?_)
                · exact (keep_ofP bel)
                refine wpAnyH_go (i := 0) (v := ?v8_0) rfl (by kernel_rfl) (by kernel_rfl) (by kernel_rfl) (fun _ _ _ h => h) (by rfl) ?hy8_0 (by assumption) ?rest8_0
                case hy8_0 => (intro w_ hSw; (try dsimp only at hSw); go_simp; (try (with_reducible rfl)))
                (try simp only [List.getElem_toArray, List.getElem_cons_zero, Act.put, List.setIfInBounds_toArray, List.set_cons_zero, List.set_cons_succ])
                refine wpAnyH_go (i := 1) (v := ?v8_1) rfl (by kernel_rfl) (by kernel_rfl) (by kernel_rfl) (fun _ _ _ h => h) (by rfl) ?hy8_1 (by assumption) ?rest8_1
                case hy8_1 => (intro w_ hSw; (try dsimp only at hSw); go_simp; (try (with_reducible rfl)))
                (try simp only [List.getElem_toArray, List.getElem_cons_zero, List.getElem_cons_succ, Act.put, List.setIfInBounds_toArray, List.set_cons_zero, List.set_cons_succ])
                refine wpAnyH_ready (rs := [2]) (by kernel_rfl) (by simp) ?_
                refine AllReadyH.cons rfl (fun K hK => ?_) AllReadyH.nil
                go_simp
                (refine (unhide HQN _).mono ?_; rintro e w' ⟨rfl, rfl⟩)
                (try (go_wp2_with fail))
                refine hK.out _ _ ?_ (fun hHeld => ?_)
                · exact (keep_ofP bel)
                clear hK K
                (try simp only [List.getElem_toArray, List.getElem_cons_zero, List.getElem_cons_succ, Act.put, List.setIfInBounds_toArray, List.set_cons_zero, List.set_cons_succ])
                refine wpAnyH_go (i := 3) (v := ?v8_3) rfl (by kernel_rfl) (by kernel_rfl) (by kernel_rfl) (fun _ _ _ h => h) (by rfl) ?hy8_3 (by assumption) ?rest8_3
                case hy8_3 => (intro w_ hSw; (try dsimp only at hSw); go_simp; (try (with_reducible rfl)))
                (try simp only [List.getElem_toArray, List.getElem_cons_zero, List.getElem_cons_succ, Act.put, List.setIfInBounds_toArray, List.set_cons_zero, List.set_cons_succ])
                refine wpAnyH_go (i := 4) (v := ?v8_4) rfl (by kernel_rfl) (by kernel_rfl) (by kernel_rfl) (fun _ _ _ h => h) (by rfl) ?hy8_4 (by assumption) ?rest8_4
                case hy8_4 => (intro w_ hSw; (try dsimp only at hSw); go_simp; (try (with_reducible rfl)))
                (try simp only [List.getElem_toArray, List.getElem_cons_zero, List.getElem_cons_succ, Act.put, List.setIfInBounds_toArray, List.set_cons_zero, List.set_cons_succ])
                refine wpAnyH_go (i := 5) (v := ?v8_5) rfl (by kernel_rfl) (by kernel_rfl) (by kernel_rfl) (fun _ _ _ h => h) (by rfl) ?hy8_5 (by assumption) ?rest8_5
                case hy8_5 => (intro w_ hSw; (try dsimp only at hSw); go_simp; (try (with_reducible rfl)))
                (try simp only [List.getElem_toArray, List.getElem_cons_zero, List.getElem_cons_succ, Act.put, List.setIfInBounds_toArray, List.set_cons_zero, List.set_cons_succ])
                refine wpAnyH_go (i := 6) (v := ?v8_6) rfl (by kernel_rfl) (by kernel_rfl) (by kernel_rfl) (fun _ _ _ h => h) (by rfl) ?hy8_6 (by assumption) ?rest8_6
                case hy8_6 => (intro w_ hSw; (try dsimp only at hSw); go_simp; (try (with_reducible rfl)))
                (try simp only [List.getElem_toArray, List.getElem_cons_zero, List.getElem_cons_succ, Act.put, List.setIfInBounds_toArray, List.set_cons_zero, List.set_cons_succ])
                refine wpAnyH_go (i := 7) (v := ?v8_7) rfl (by kernel_rfl) (by kernel_rfl) (by kernel_rfl) (fun _ _ _ h => h) (by rfl) ?hy8_7 (by assumption) ?rest8_7
                case hy8_7 => (intro w_ hSw; (try dsimp only at hSw); go_simp; (try (with_reducible rfl)))
                (try simp only [List.getElem_toArray, List.getElem_cons_zero, List.getElem_cons_succ, Act.put, List.setIfInBounds_toArray, List.set_cons_zero, List.set_cons_succ])
                refine wpAnyH_go (i := 8) (v := ?v8_8) rfl (by kernel_rfl) (by kernel_rfl) (by kernel_rfl) (fun _ _ _ h => h) (by rfl) ?hy8_8 (by assumption) ?rest8_8
                case hy8_8 => (intro w_ hSw; (try dsimp only at hSw); go_simp; (try (with_reducible rfl)))
                (try simp only [List.getElem_toArray, List.getElem_cons_zero, List.getElem_cons_succ, Act.put, List.setIfInBounds_toArray, List.set_cons_zero, List.set_cons_succ])
                refine wpAnyH_go (i := 9) (v := ?v8_9) rfl (by kernel_rfl) (by kernel_rfl) (by kernel_rfl) (fun _ _ _ h => h) (by rfl) ?hy8_9 (by assumption) ?rest8_9
                case hy8_9 => (intro w_ hSw; (try dsimp only at hSw); go_simp; (try (with_reducible rfl)))
                (try simp only [List.getElem_toArray, List.getElem_cons_zero, List.getElem_cons_succ, Act.put, List.setIfInBounds_toArray, List.set_cons_zero, List.set_cons_succ])
                refine wpAnyH_go (i := 10) (v := ?v8_10) rfl (by kernel_rfl) (by kernel_rfl) (by kernel_rfl) (fun _ _ _ h => h) (by rfl) ?hy8_10 (by assumption) ?rest8_10
                case hy8_10 => (intro w_ hSw; (try dsimp only at hSw); go_simp; (try (with_reducible rfl)))
                (try simp only [List.getElem_toArray, List.getElem_cons_zero, List.getElem_cons_succ, Act.put, List.setIfInBounds_toArray, List.set_cons_zero, List.set_cons_succ])
                refine wpAnyH_go (i := 11) (v := ?v8_11) rfl (by kernel_rfl) (by kernel_rfl) (by kernel_rfl) (fun _ _ _ h => h) (by rfl) ?hy8_11 (by assumption) ?rest8_11
                case hy8_11 => (intro w_ hSw; (try dsimp only at hSw); go_simp; (try (with_reducible rfl)))
                (try simp only [List.getElem_toArray, List.getElem_cons_zero, List.getElem_cons_succ, Act.put, List.setIfInBounds_toArray, List.set_cons_zero, List.set_cons_succ])
                refine wpAnyH_go (i := 12) (v := ?v8_12) rfl (by kernel_rfl) (by kernel_rfl) (by kernel_rfl) (fun _ _ _ h => h) (by rfl) ?hy8_12 (by assumption) ?rest8_12
                case hy8_12 => (intro w_ hSw; (try dsimp only at hSw); go_simp; (try (with_reducible rfl)))
                (try simp only [List.getElem_toArray, List.getElem_cons_zero, List.getElem_cons_succ, Act.put, List.setIfInBounds_toArray, List.set_cons_zero, List.set_cons_succ])
                refine wpAnyH_go (i := 13) (v := ?v8_13) rfl (by kernel_rfl) (by kernel_rfl) (by kernel_rfl) (fun _ _ _ h => h) (by rfl) ?hy8_13 (by assumption) ?rest8_13
                case hy8_13 => (intro w_ hSw; (try dsimp only at hSw); go_simp; (try (with_reducible rfl)))
                (try simp only [List.getElem_toArray, List.getElem_cons_zero, List.getElem_cons_succ, Act.put, List.setIfInBounds_toArray, List.set_cons_zero, List.set_cons_succ])
                refine wpAnyH_go (i := 14) (v := ?v8_14) rfl (by kernel_rfl) (by kernel_rfl) (by kernel_rfl) (fun _ _ _ h => h) (by rfl) ?hy8_14 (by assumption) ?rest8_14
                case hy8_14 => (intro w_ hSw; (try dsimp only at hSw); go_simp; (try (with_reducible rfl)))
                (try simp only [List.getElem_toArray, List.getElem_cons_zero, List.getElem_cons_succ, Act.put, List.setIfInBounds_toArray, List.set_cons_zero, List.set_cons_succ])
                refine wpAnyH_go (i := 15) (v := ?v8_15) rfl (by kernel_rfl) (by kernel_rfl) (by kernel_rfl) (fun _ _ _ h => h) (by rfl) ?hy8_15 (by assumption) ?rest8_15
                case hy8_15 => (intro w_ hSw; (try dsimp only at hSw); go_simp; (try (with_reducible rfl)))
                (try simp only [List.getElem_toArray, List.getElem_cons_zero, List.getElem_cons_succ, Act.put, List.setIfInBounds_toArray, List.set_cons_zero, List.set_cons_succ])
                refine wpAnyH_go (i := 16) (v := ?v8_16) rfl (by kernel_rfl) (by kernel_rfl) (by kernel_rfl) (fun _ _ _ h => h) (by rfl) ?hy8_16 (by assumption) ?rest8_16
                case hy8_16 => (intro w_ hSw; (try dsimp only at hSw); go_simp; (try (with_reducible rfl)))
                (try simp only [List.getElem_toArray, List.getElem_cons_zero, List.getElem_cons_succ, Act.put, List.setIfInBounds_toArray, List.set_cons_zero, List.set_cons_succ])
                refine wpAnyH_go (i := 17) (v := ?v8_17) rfl (by kernel_rfl) (by kernel_rfl) (by kernel_rfl) (fun _ _ _ h => h) (by rfl) ?hy8_17 (by assumption) ?rest8_17
                case hy8_17 => (intro w_ hSw; (try dsimp only at hSw); go_simp; (try (with_reducible rfl)))
                (try simp only [List.getElem_toArray, List.getElem_cons_zero, List.getElem_cons_succ, Act.put, List.setIfInBounds_toArray, List.set_cons_zero, List.set_cons_succ])
                refine wpAnyH_go (i := 18) (v := ?v8_18) rfl (by kernel_rfl) (by kernel_rfl) (by kernel_rfl) (fun _ _ _ h => h) (by rfl) ?hy8_18 (by assumption) ?rest8_18
                case hy8_18 => (intro w_ hSw; (try dsimp only at hSw); go_simp; (try (with_reducible rfl)))
                (try simp only [List.getElem_toArray, List.getElem_cons_zero, List.getElem_cons_succ, Act.put, List.setIfInBounds_toArray, List.set_cons_zero, List.set_cons_succ])
                refine wpAnyH_go (i := 19) (v := ?v8_19) rfl (by kernel_rfl) (by kernel_rfl) (by kernel_rfl) (fun _ _ _ h => h) (by rfl) ?hy8_19 (by assumption) ?rest8_19
                case hy8_19 => (intro w_ hSw; (try dsimp only at hSw); go_simp; (try (with_reducible rfl)))
                (try simp only [List.getElem_toArray, List.getElem_cons_zero, List.getElem_cons_succ, Act.put, List.setIfInBounds_toArray, List.set_cons_zero, List.set_cons_succ])
                refine wpAnyH_skip (i := 20) rfl (by kernel_rfl) (by kernel_rfl) (by kernel_rfl) (fun _ _ _ h => h) (by rfl) (by assumption) ?_
                (try simp only [List.getElem_toArray, List.getElem_cons_zero, List.getElem_cons_succ, Act.put, List.setIfInBounds_toArray, List.set_cons_zero, List.set_cons_succ])
                refine wpAnyH_skip (i := 21) rfl (by kernel_rfl) (by kernel_rfl) (by kernel_rfl) (fun _ _ _ h => h) (by rfl) (by assumption) ?_
                (try simp only [List.getElem_toArray, List.getElem_cons_zero, List.getElem_cons_succ, Act.put, List.setIfInBounds_toArray, List.set_cons_zero, List.set_cons_succ])
                refine wpAnyH_skip (i := 22) rfl (by kernel_rfl) (by kernel_rfl) (by kernel_rfl) (fun _ _ _ h => h) (by rfl) (by assumption) ?_
                (try simp only [List.getElem_toArray, List.getElem_cons_zero, List.getElem_cons_succ, Act.put, List.setIfInBounds_toArray, List.set_cons_zero, List.set_cons_succ])
                refine wpAnyH_skip (i := 23) rfl (by kernel_rfl) (by kernel_rfl) (by kernel_rfl) (fun _ _ _ h => h) (by rfl) (by assumption) ?_
                (try simp only [List.getElem_toArray, List.getElem_cons_zero, List.getElem_cons_succ, Act.put, List.setIfInBounds_toArray, List.set_cons_zero, List.set_cons_succ])
                refine wpAnyH_go (i := 24) (v := ?v8_24) rfl (by kernel_rfl) (by kernel_rfl) (by kernel_rfl) (fun _ _ _ h => h) (by rfl) ?hy8_24 (by assumption) ?rest8_24
                case hy8_24 => (intro w_ hSw; (try dsimp only at hSw); go_simp; (try (with_reducible rfl)))
                (try simp only [List.getElem_toArray, List.getElem_cons_zero, List.getElem_cons_succ, Act.put, List.setIfInBounds_toArray, List.set_cons_zero, List.set_cons_succ])
                refine wpAnyH_done (by kernel_rfl) ?_ _
                refine NoPanic.normal ?_
                all_goals (
                  go_wp2
                  go_ret
                  exact ⟨ret_bool HF.out.symm, hb.trans ((hbW.trans (Below.mono (by first | exact Below.refl _ _ | exact (Below.refl _ _).drew | exact below_drewN (Below.refl _ _) _ | exact bel) hq2)).mono hzr)⟩)
            · have HF := Lib.hid (catOk_no (unhide HKP) (by rw [itGood_j HK.out HX.out HXP.out]; simp [nmLe, ← HNQ.out, hl1]))
              have hqn := fun W => i_NameOk nm W hnm
              simp only [hnok] at hqn
              have HQN := hide hqn
              clear hqn
              go_wp2
              have hk0 := blk_new wr (.cells #[.string nm, .int .i64 d, .int .i64 f, .slice A0 ss.length c0] 132)
              have hbW : Below wr.heap.size wr (wr.alloc (.cells #[.string nm, .int .i64 d, .int .i64 f, .slice A0 ss.length c0] 132)) := bel
              have hs0 := hss.alloc (by omega) (.cells #[.string nm, .int .i64 d, .int .i64 f, .slice A0 ss.length c0] 132)
              have hq1 : (ad.add (j * 4)).block < wr.heap.size := by rw [block_of_add]; omega
              have hpc0 := (World.cell?_alloc_lt wr (.cells #[.string nm, .int .i64 d, .int .i64 f, .slice A0 ss.length c0] 132) (ad.add (K * 4)) (by rw [block_of_add]; omega)).trans hpc; have hpq : (ad.add (K * 4)).block < wr.heap.size := (by rw [block_of_add]; omega)
              generalize (wr.alloc (.cells #[.string nm, .int .i64 d, .int .i64 f, .slice A0 ss.length c0] 132)) = w0 at *
              obtain ⟨hy0, hy1, hy2, hy3, hyl⟩ := blk4 hk0
              have hq2 : wr.heap.size ≤ w0.heap.size := hbW.size
              have hpq2 : (ad.add (K * 4)).block < w0.heap.size := by omega
              have hs0B := hs0.more (B' := w0.heap.size) (by omega)
              refine wp_region_noPanic ?_
              refine wp_region_held_drew (S := (fun W => (∀ p : Addr, p.block < w0.heap.size → W.cell? p = w0.cell? p) ∧ (∀ p : Addr, p.block < w0.heap.size → W.frozen? p = w0.frozen? p) ∧ Below w0.heap.size w0 W)) (by kernel_rfl) ?_ (fun hHeld => ?_)
              · exact (keep_ofP bel)
              refine wpAnyH_go (i := 0) (v := ?v9_0) rfl (by kernel_rfl) (by kernel_rfl) (by kernel_rfl) (fun _ _ _ h => h) (by rfl) ?hy9_0 (by assumption) ?rest9_0
              case hy9_0 => (intro w_ hSw; (try dsimp only at hSw); go_simp; (try (with_reducible rfl)))
              (try simp only [List.getElem_toArray, List.getElem_cons_zero, Act.put, List.setIfInBounds_toArray, List.set_cons_zero, List.set_cons_succ])
              refine wpAnyH_go (i := 1) (v := ?v9_1) rfl (by kernel_rfl) (by kernel_rfl) (by kernel_rfl) (fun _ _ _ h => h) (by rfl) ?hy9_1 (by assumption) ?rest9_1
              case hy9_1 => (intro w_ hSw; (try dsimp only at hSw); go_simp; (try (with_reducible rfl)))
              (try simp only [List.getElem_toArray, List.getElem_cons_zero, List.getElem_cons_succ, Act.put, List.setIfInBounds_toArray, List.set_cons_zero, List.set_cons_succ])
              refine wpAnyH_ready (rs := [2]) (by kernel_rfl) (by simp) ?_
              refine AllReadyH.cons rfl (fun K hK => ?_) AllReadyH.nil
              go_simp
              (refine (unhide HQN _).mono ?_; rintro e w' ⟨rfl, rfl⟩)
              (try (go_wp2_with fail))
              refine hK.out _ _ ?_ (fun hHeld => ?_)
              · exact (keep_ofP bel)
              clear hK K
              (try simp only [List.getElem_toArray, List.getElem_cons_zero, List.getElem_cons_succ, Act.put, List.setIfInBounds_toArray, List.set_cons_zero, List.set_cons_succ])
              refine wpAnyH_go (i := 3) (v := ?v9_3) rfl (by kernel_rfl) (by kernel_rfl) (by kernel_rfl) (fun _ _ _ h => h) (by rfl) ?hy9_3 (by assumption) ?rest9_3
              case hy9_3 => (intro w_ hSw; (try dsimp only at hSw); go_simp; (try (with_reducible rfl)))
              (try simp only [List.getElem_toArray, List.getElem_cons_zero, List.getElem_cons_succ, Act.put, List.setIfInBounds_toArray, List.set_cons_zero, List.set_cons_succ])
              refine wpAnyH_go (i := 4) (v := ?v9_4) rfl (by kernel_rfl) (by kernel_rfl) (by kernel_rfl) (fun _ _ _ h => h) (by rfl) ?hy9_4 (by assumption) ?rest9_4
              case hy9_4 => (intro w_ hSw; (try dsimp only at hSw); go_simp; (try (with_reducible rfl)))
              (try simp only [List.getElem_toArray, List.getElem_cons_zero, List.getElem_cons_succ, Act.put, List.setIfInBounds_toArray, List.set_cons_zero, List.set_cons_succ])
              refine wpAnyH_go (i := 5) (v := ?v9_5) rfl (by kernel_rfl) (by kernel_rfl) (by kernel_rfl) (fun _ _ _ h => h) (by rfl) ?hy9_5 (by assumption) ?rest9_5
              case hy9_5 => (intro w_ hSw; (try dsimp only at hSw); go_simp; (try (with_reducible rfl)))
              (try simp only [List.getElem_toArray, List.getElem_cons_zero, List.getElem_cons_succ, Act.put, List.setIfInBounds_toArray, List.set_cons_zero, List.set_cons_succ])
              refine wpAnyH_go (i := 6) (v := ?v9_6) rfl (by kernel_rfl) (by kernel_rfl) (by kernel_rfl) (fun _ _ _ h => h) (by rfl) ?hy9_6 (by assumption) ?rest9_6
              case hy9_6 => (intro w_ hSw; (try dsimp only at hSw); go_simp; (try (with_reducible rfl)))
              (try simp only [List.getElem_toArray, List.getElem_cons_zero, List.getElem_cons_succ, Act.put, List.setIfInBounds_toArray, List.set_cons_zero, List.set_cons_succ])
              refine wpAnyH_go (i := 7) (v := ?v9_7) rfl (by kernel_rfl) (by kernel_rfl) (by kernel_rfl) (fun _ _ _ h => h) (by rfl) ?hy9_7 (by assumption) ?rest9_7
              case hy9_7 => (intro w_ hSw; (try dsimp only at hSw); go_simp; (try (with_reducible rfl)))
              (try simp only [List.getElem_toArray, List.getElem_cons_zero, List.getElem_cons_succ, Act.put, List.setIfInBounds_toArray, List.set_cons_zero, List.set_cons_succ])
              refine wpAnyH_go (i := 8) (v := ?v9_8) rfl (by kernel_rfl) (by kernel_rfl) (by kernel_rfl) (fun _ _ _ h => h) (by rfl) ?hy9_8 (by assumption) ?rest9_8
              case hy9_8 => (intro w_ hSw; (try dsimp only at hSw); go_simp; (try (with_reducible rfl)))
              (try simp only [List.getElem_toArray, List.getElem_cons_zero, List.getElem_cons_succ, Act.put, List.setIfInBounds_toArray, List.set_cons_zero, List.set_cons_succ])
              refine wpAnyH_go (i := 9) (v := ?v9_9) rfl (by kernel_rfl) (by kernel_rfl) (by kernel_rfl) (fun _ _ _ h => h) (by rfl) ?hy9_9 (by assumption) ?rest9_9
              case hy9_9 => (intro w_ hSw; (try dsimp only at hSw); go_simp; (try (with_reducible rfl)))
              (try simp only [List.getElem_toArray, List.getElem_cons_zero, List.getElem_cons_succ, Act.put, List.setIfInBounds_toArray, List.set_cons_zero, List.set_cons_succ])
              refine wpAnyH_go (i := 10) (v := ?v9_10) rfl (by kernel_rfl) (by kernel_rfl) (by kernel_rfl) (fun _ _ _ h => h) (by rfl) ?hy9_10 (by assumption) ?rest9_10
              case hy9_10 => (intro w_ hSw; (try dsimp only at hSw); go_simp; (try (with_reducible rfl)))
              (try simp only [List.getElem_toArray, List.getElem_cons_zero, List.getElem_cons_succ, Act.put, List.setIfInBounds_toArray, List.set_cons_zero, List.set_cons_succ])
              refine wpAnyH_go (i := 11) (v := ?v9_11) rfl (by kernel_rfl) (by kernel_rfl) (by kernel_rfl) (fun _ _ _ h => h) (by rfl) ?hy9_11 (by assumption) ?rest9_11
              case hy9_11 => (intro w_ hSw; (try dsimp only at hSw); go_simp; (try (with_reducible rfl)))
              (try simp only [List.getElem_toArray, List.getElem_cons_zero, List.getElem_cons_succ, Act.put, List.setIfInBounds_toArray, List.set_cons_zero, List.set_cons_succ])
              refine wpAnyH_go (i := 12) (v := ?v9_12) rfl (by kernel_rfl) (by kernel_rfl) (by kernel_rfl) (fun _ _ _ h => h) (by rfl) ?hy9_12 (by assumption) ?rest9_12
              case hy9_12 => (intro w_ hSw; (try dsimp only at hSw); go_simp; (try (with_reducible rfl)))
              (try simp only [List.getElem_toArray, List.getElem_cons_zero, List.getElem_cons_succ, Act.put, List.setIfInBounds_toArray, List.set_cons_zero, List.set_cons_succ])
              refine wpAnyH_go (i := 13) (v := ?v9_13) rfl (by kernel_rfl) (by kernel_rfl) (by kernel_rfl) (fun _ _ _ h => h) (by rfl) ?hy9_13 (by assumption) ?rest9_13
              case hy9_13 => (intro w_ hSw; (try dsimp only at hSw); go_simp; (try (with_reducible rfl)))
              (try simp only [List.getElem_toArray, List.getElem_cons_zero, List.getElem_cons_succ, Act.put, List.setIfInBounds_toArray, List.set_cons_zero, List.set_cons_succ])
              refine wpAnyH_go (i := 14) (v := ?v9_14) rfl (by kernel_rfl) (by kernel_rfl) (by kernel_rfl) (fun _ _ _ h => h) (by rfl) ?hy9_14 (by assumption) ?rest9_14
              case hy9_14 => (intro w_ hSw; (try dsimp only at hSw); go_simp; (try (with_reducible rfl)))
              (try simp only [List.getElem_toArray, List.getElem_cons_zero, List.getElem_cons_succ, Act.put, List.setIfInBounds_toArray, List.set_cons_zero, List.set_cons_succ])
              refine wpAnyH_go (i := 15) (v := ?v9_15) rfl (by kernel_rfl) (by kernel_rfl) (by kernel_rfl) (fun _ _ _ h => h) (by rfl) ?hy9_15 (by assumption) ?rest9_15
              case hy9_15 => (intro w_ hSw; (try dsimp only at hSw); go_simp; (try (with_reducible rfl)))
              (try simp only [List.getElem_toArray, List.getElem_cons_zero, List.getElem_cons_succ, Act.put, List.setIfInBounds_toArray, List.set_cons_zero, List.set_cons_succ])
              refine wpAnyH_go (i := 16) (v := ?v9_16) rfl (by kernel_rfl) (by kernel_rfl) (by kernel_rfl) (fun _ _ _ h => h) (by rfl) ?hy9_16 (by assumption) ?rest9_16
              case hy9_16 => (intro w_ hSw; (try dsimp only at hSw); go_simp; (try (with_reducible rfl)))
              (try simp only [List.getElem_toArray, List.getElem_cons_zero, List.getElem_cons_succ, Act.put, List.setIfInBounds_toArray, List.set_cons_zero, List.set_cons_succ])
              refine wpAnyH_go (i := 17) (v := ?v9_17) rfl (by kernel_rfl) (by kernel_rfl) (by kernel_rfl) (fun _ _ _ h => h) (by rfl) ?hy9_17 (by assumption) ?rest9_17
              case hy9_17 => (intro w_ hSw; (try dsimp only at hSw); go_simp; (try (with_reducible rfl)))
              (try simp only [List.getElem_toArray, List.getElem_cons_zero, List.getElem_cons_succ, Act.put, List.setIfInBounds_toArray, List.set_cons_zero, List.set_cons_succ])
              refine wpAnyH_go (i := 18) (v := ?v9_18) rfl (by kernel_rfl) (by kernel_rfl) (by kernel_rfl) (fun _ _ _ h => h) (by rfl) ?hy9_18 (by assumption) ?rest9_18
              case hy9_18 => (intro w_ hSw; (try dsimp only at hSw); go_simp; (try (with_reducible rfl)))
              (try simp only [List.getElem_toArray, List.getElem_cons_zero, List.getElem_cons_succ, Act.put, List.setIfInBounds_toArray, List.set_cons_zero, List.set_cons_succ])
              refine wpAnyH_go (i := 19) (v := ?v9_19) rfl (by kernel_rfl) (by kernel_rfl) (by kernel_rfl) (fun _ _ _ h => h) (by rfl) ?hy9_19 (by assumption) ?rest9_19
              case hy9_19 => (intro w_ hSw; (try dsimp only at hSw); go_simp; (try (with_reducible rfl)))
              (try simp only [List.getElem_toArray, List.getElem_cons_zero, List.getElem_cons_succ, Act.put, List.setIfInBounds_toArray, List.set_cons_zero, List.set_cons_succ])
              refine wpAnyH_skip (i := 20) rfl (by kernel_rfl) (by kernel_rfl) (by kernel_rfl) (fun _ _ _ h => h) (by rfl) (by assumption) ?_
              (try simp only [List.getElem_toArray, List.getElem_cons_zero, List.getElem_cons_succ, Act.put, List.setIfInBounds_toArray, List.set_cons_zero, List.set_cons_succ])
              refine wpAnyH_skip (i := 21) rfl (by kernel_rfl) (by kernel_rfl) (by kernel_rfl) (fun _ _ _ h => h) (by rfl) (by assumption) ?_
              (try simp only [List.getElem_toArray, List.getElem_cons_zero, List.getElem_cons_succ, Act.put, List.setIfInBounds_toArray, List.set_cons_zero, List.set_cons_succ])
              refine wpAnyH_skip (i := 22) rfl (by kernel_rfl) (by kernel_rfl) (by kernel_rfl) (fun _ _ _ h => h) (by rfl) (by assumption) ?_
              (try simp only [List.getElem_toArray, List.getElem_cons_zero, List.getElem_cons_succ, Act.put, List.setIfInBounds_toArray, List.set_cons_zero, List.set_cons_succ])
              refine wpAnyH_skip (i := 23) rfl (by kernel_rfl) (by kernel_rfl) (by kernel_rfl) (fun _ _ _ h => h) (by rfl) (by assumption) ?_
              (try simp only [List.getElem_toArray, List.getElem_cons_zero, List.getElem_cons_succ, Act.put, List.setIfInBounds_toArray, List.set_cons_zero, List.set_cons_succ])
              refine wpAnyH_go (i := 24) (v := ?v9_24) rfl (by kernel_rfl) (by kernel_rfl) (by kernel_rfl) (fun _ _ _ h => h) (by rfl) ?hy9_24 (by assumption) ?rest9_24
              case hy9_24 => (intro w_ hSw; (try dsimp only at hSw); go_simp; (try (with_reducible rfl)))
              (try simp only [List.getElem_toArray, List.getElem_cons_zero, List.getElem_cons_succ, Act.put, List.setIfInBounds_toArray, List.set_cons_zero, List.set_cons_succ])
              refine wpAnyH_done (by kernel_rfl) ?_ _
              refine NoPanic.normal ?_
              all_goals (
                go_wp2
                go_ret
                exact ⟨ret_bool HF.out.symm, hb.trans ((hbW.trans (Below.mono (by first | exact Below.refl _ _ | exact (Below.refl _ _).drew | exact below_drewN (Below.refl _ _) _ | exact bel) hq2)).mono hzr)⟩)
    · have hjn : j = n := by omega
      subst hjn
      have hcat : catOk P = decide (j ≤ 20) := by
        unfold catOk
        rw [HL.out, HA.out]; rfl
      have HF := Lib.hid hcat
      clear hcat
      by_cases h20 : j ≤ 20
      · go_wp2
        go_ret
        exact ⟨ret_bool (by rw [HF.out]; simp [h20]; try omega), hb⟩
      · go_wp2
        go_ret
        exact ⟨ret_bool (by rw [HF.out]; simp [h20]; try omega), hb⟩
end Go.Proofs.YtdddglihomchfaaGreat
