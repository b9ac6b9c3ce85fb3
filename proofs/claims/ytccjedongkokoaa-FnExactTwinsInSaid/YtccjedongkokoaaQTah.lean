/- Contracts of the program's and the reference's functions (Twin2). -/
import Derived.BigQuiet
import Derived.Deep.DeepCutAuto
import Derived.Deep.RegionHeld3
import Derived.Lib.QuietBelow
import Derived.Test.YtccjedongkokoaaRows
import Derived.Test.YtccjedongkokoaaQTaf
import Derived.Test.YtccjedongkokoaaQTk
import Derived.Test.YtccjedongkokoaaQTz
namespace Go.Proofs.Ytccjedongkokoaa
open Go.ChangeShapes Go.WideShapes Go.ChangeAt Go.RowKit
set_option linter.unusedVariables false
set_option linter.unusedSimpArgs false
set_option maxRecDepth 10000
theorem info_iss : (Try.prog.info? 64).map (fun i => (i.zero, i.size, i.bytes)) = some (some (.slice none 0 0), 1, 24) := by kernel_rfl
set_option maxHeartbeats 12800000 in
theorem s_TwinsIn (P : List PItem) (B : Nat) (A : Option Addr) (n c : Nat) (L : List RItem) (w : World) (hp : plI L = P) (hS : Items w B A n L) (hB : B ≤ w.heap.size) :
    Calls Try.prog 38 #[.slice A n c] w fun e w' => ∃ A2 N c2 bs, e = .returned (.slice A2 N c2) ∧ OwnPP w' w.heap.size w'.heap.size A2 N c2 (twRes P) bs ∧ Below w.heap.size w w' := by
  obtain ⟨i0, hi0, hz0, hz1, hz2⟩ := info_parts info_iss
  have hl : P.length = n := by rw [← hp, plI_len, hS.len]
  have hco := fun (W : World) (hW : Below w.heap.size w W) => s_CatalogOk P B A n c L W hp (hS.below (hW.mono hB)) (Nat.le_trans hB hW.size)
  cases hck : catOk P
  · have HR : Hid (twRes P = []) := by unfold Hid twRes; rw [hck]; rfl
    simp only [hck] at hco
    have HCO := hide hco
    clear hco
    go_enter Try.func38, Try.ntmps38
    go_wp2_with fail
    have hb0 : Below w.heap.size w (w.alloc (.cells #[] 64)) := bel
    have h0 := OwnPP.nil w w.heap.size (Nat.le_refl _)
    generalize w.alloc (.cells #[] 64) = w0 at *
    refine (HCO.out w0 hb0).mono ?_
    rintro e w1 ⟨rfl, hb1⟩
    have h1 := hide ((h0.below hb1).wide (Nat.le_refl _) hb1.size)
    go_wp2
    go_ret
    exact ⟨_, 0, 0, [], rfl, by rw [HR.out]; exact h1.out, hb0.trans (hb1.mono hb0.size)⟩
  · have HR : Hid (twRes P = twAll P) := by unfold Hid twRes; rw [hck]; rfl
    simp only [hck] at hco
    have HCO := hide hco
    have hn20 : n ≤ 20 := by
      rw [← hl]
      unfold catOk at hck
      simp only [Bool.and_eq_true, decide_eq_true_eq] at hck
      exact hck.2
    have HL := Lib.hid hl
    have HP := Lib.hid hp
    have hLl : L.length = n := hS.len
    have HLL := Lib.hid hLl
    clear hco hck hl hp hLl
    go_enter Try.func38, Try.ntmps38
    go_wp2_with fail
    have hb0 : Below w.heap.size w (w.alloc (.cells #[] 64)) := bel
    have h0 := OwnPP.nil w w.heap.size (Nat.le_refl _)
    generalize w.alloc (.cells #[] 64) = w0 at *
    refine (HCO.out w0 hb0).mono ?_
    rintro e w2 ⟨rfl, hb1⟩
    replace h0 := (h0.below hb1).wide (Nat.le_refl _) hb1.size
    have hbw := hb0.trans (hb1.mono hb0.size)
    clear hb0 hb1
    go_wp2
    have hwS := hbw.size
    go_loopw [3, 4] (fun o i wr => ∃ (j N : Nat) (A' : Option Addr) (c' : Nat) (bs : List Nat), j ≤ n ∧ N ≤ 421 ∧ i = .int .i64 (j : Int) ∧ o = .slice A' N c' ∧ Hid (OwnPP wr w.heap.size wr.heap.size A' N c' (twUp P j (j + 1)) bs) ∧ Below w.heap.size w wr) (fun _ i _ => n - (intOf i).toNat)
    case atStart => exact ⟨0, 0, _, _, [], Nat.zero_le _, by omega, rfl, rfl, (by unfold Hid; rw [twUp_zero]; exact h0), hbw⟩
    case round =>
      clear h0 hbw hwS
      obtain ⟨j, N, A', c', bs, hj, hN, rfl, rfl, HO, hb⟩ := hrel
      have hzr := hb.size
      by_cases hlt : j < n
      · obtain ⟨hk1, ad, rfl, hab, e0, e1, e2, e3, hSx, hnx⟩ := (hS.below (hb.mono hB)).at_ (k := j) hlt
        obtain ⟨X, hX⟩ : ∃ X, L[j] = X := ⟨_, rfl⟩
        have HX := Lib.hid hX
        rw [hX] at e0 e1 e2 e3 hSx hnx
        clear hX
        clear e0 e1 e2 e3
        go_wp2
        go_loopw [3, 5] (fun o i wr => ∃ (k N : Nat) (A' : Option Addr) (c' : Nat) (bs : List Nat), j < k ∧ k ≤ n ∧ N ≤ 421 ∧ i = .int .i64 (k : Int) ∧ o = .slice A' N c' ∧ Hid (OwnPP wr w.heap.size wr.heap.size A' N c' (twUp P j k) bs) ∧  Below w.heap.size w wr) (fun _ i _ => n - (intOf i).toNat)
        case atStart => exact ⟨j + 1, N, A', c', bs, by omega, by omega, hN, by go_num, rfl, HO.out,  hb⟩
        case round =>
          clear hb HO
          obtain ⟨k, N, A', c', bs, hjk, hk, hN, rfl, rfl, HO,  hb⟩ := hrel
          have hzr := hb.size
          by_cases hlt2 : k < n
          · obtain ⟨hk1, ad', he', hab, e0, e1, e2, e3, hSx, hnx⟩ := (hS.below (hb.mono hB)).at_ (k := j) hlt
            injection he' with he'
            subst he'
            rw [HX.out] at e0 e1 e2 e3 hSx hnx
            obtain ⟨hk2, ad', he', hab', f0, f1, f2, f3, hSy, hny⟩ := (hS.below (hb.mono hB)).at_ (k := k) hlt2
            injection he' with he'
            subst he'
            obtain ⟨Y, hY⟩ : ∃ Y, L[k] = Y := ⟨_, rfl⟩
            rw [hY] at f0 f1 f2 f3 hSy hny
            have htw : twAt P j k = (twin1 X.x Y.x || twin2 X.x Y.x) := by
              rw [← HP.out]
              have q1 := plI_at hk1
              have q2 := plI_at hk2
              rw [HX.out] at q1
              rw [hY] at q2
              exact twAt_get q1 q2
            have s1 := fun (W : World) (h1 : Strs W W.heap.size X.A X.x.ss.length X.x.ss) (h2 : Strs W W.heap.size Y.A Y.x.ss.length Y.x.ss) => s_SameCard X.x.d X.x.f Y.x.d Y.x.f W.heap.size X.A Y.A X.x.ss.length X.c Y.x.ss.length Y.c X.x.ss Y.x.ss W h1 h2 (Nat.le_refl _)
            have s2 := fun (W : World) (M : Option Addr) (m : Nat) (h1 : Strs W W.heap.size X.A X.x.ss.length X.x.ss) (h2 : Strs W W.heap.size M (mirrorRes Y.x.d Y.x.f Y.x.ss).2.2.length (mirrorRes Y.x.d Y.x.f Y.x.ss).2.2) => s_SameCard X.x.d X.x.f (mirrorRes Y.x.d Y.x.f Y.x.ss).1 (mirrorRes Y.x.d Y.x.f Y.x.ss).2.1 W.heap.size X.A M X.x.ss.length X.c (mirrorRes Y.x.d Y.x.f Y.x.ss).2.2.length m X.x.ss (mirrorRes Y.x.d Y.x.f Y.x.ss).2.2 W h1 h2 (Nat.le_refl _)
            have hmz : (mirrorRes Y.x.d Y.x.f Y.x.ss).2.2.length ≤ 16777216 ∧ ∀ x ∈ (mirrorRes Y.x.d Y.x.f Y.x.ss).2.2, x.size ≤ 16777216 := by
              have h1 := hSy.nb
              have h2 := hSy.sb
              unfold mirrorRes
              split
              · exact ⟨by simpa using h1, fun x hx => h2 x (List.mem_reverse.1 hx)⟩
              · exact ⟨Nat.zero_le _, fun x hx => by cases hx⟩
            have s3 : ∀ W : World, Strs W W.heap.size Y.A Y.x.ss.length Y.x.ss → Calls Try.prog 22 #[.agg #[.int .i64 Y.x.d, .int .i64 Y.x.f, .slice Y.A Y.x.ss.length Y.c]] W fun e w' => ∃ M m, e = .returned (.agg #[.int .i64 (mirrorRes Y.x.d Y.x.f Y.x.ss).1, .int .i64 (mirrorRes Y.x.d Y.x.f Y.x.ss).2.1, .slice M (mirrorRes Y.x.d Y.x.f Y.x.ss).2.2.length m]) ∧ Strs w' w'.heap.size M (mirrorRes Y.x.d Y.x.f Y.x.ss).2.2.length (mirrorRes Y.x.d Y.x.f Y.x.ss).2.2 ∧ Below W.heap.size W w' := by
              intro W h
              refine (s_MirrorCard Y.x.d Y.x.f W.heap.size Y.A Y.x.ss.length Y.c Y.x.ss W h (Nat.le_refl _)).mono ?_
              rintro e w' ⟨M, m, h1, h2, h3⟩
              exact ⟨M, m, h1, strs_of_own h2 hmz.1 hmz.2, h3⟩
            obtain ⟨t1, ht1⟩ : ∃ t, twin1 X.x Y.x = t := ⟨_, rfl⟩
            obtain ⟨t2, ht2⟩ : ∃ t, twin2 X.x Y.x = t := ⟨_, rfl⟩
            have ht1' := ht1
            have ht2' := ht2
            unfold twin1 at ht1'
            unfold twin2 at ht2'
            simp only [ht1'] at s1
            simp only [ht2'] at s2
            rw [ht1, ht2] at htw
            clear ht1 ht2 ht1' ht2' hmz hY
            have HTW := Lib.hid htw
            obtain ⟨⟨⟨nx, dx, fx, sx⟩, Ax, cx⟩, hXe⟩ : ∃ Z : RItem, X = Z := ⟨X, rfl⟩
            subst hXe
            obtain ⟨⟨⟨ny, dy, fy, sy⟩, Ay, cy⟩, hYe⟩ : ∃ Z : RItem, Y = Z := ⟨Y, rfl⟩
            subst hYe
            simp only at e0 e1 e2 e3 hSx hnx f0 f1 f2 f3 hSy hny s1 s2 s3
            generalize mirrorRes dy fy sy = MM at *
            obtain ⟨dm, fm, sm⟩ := MM
            simp only at s2 s3
            have YX := hSx.more (Nat.le_trans hB hzr)
            have YY := hSy.more (Nat.le_trans hB hzr)
            have T1 := hide s1
            have T2 := hide s2
            have T3 := hide s3
            clear s1 s2 s3 htw
            have hq1 : (ad.add (j * 4)).block < wr.heap.size := by rw [block_of_add]; omega
            have hq2 : (ad.add (k * 4)).block < wr.heap.size := by rw [block_of_add]; omega
            have hjn : (j : Int) < (n : Int) := by omega
            have hkn : (k : Int) < (n : Int) := by omega
            obtain ⟨lx, hlx⟩ : ∃ x, sx.length = x := ⟨_, rfl⟩
            obtain ⟨ly, hly⟩ : ∃ x, sy.length = x := ⟨_, rfl⟩
            obtain ⟨lm, hlm⟩ : ∃ x, sm.length = x := ⟨_, rfl⟩
            skip
            rw [hlx] at e3 YX T1 T2
            rw [hly] at f3 YY T1 T3
            rw [hlm] at T2 T3
            clear hlx hly hlm hSx hSy
            go_wp2_with fail
            go_cut [49] (fun s wx => s = .bool (t1 || t2) ∧ Below wr.heap.size wr wx)
            case first =>
              have tok1 : True := trivial
              cases t1
              · go_region_held3 (fun W => (∀ p : Addr, p.block < wr.heap.size → W.cell? p = (wr).cell? p) ∧ (∀ p : Addr, p.block < wr.heap.size → W.frozen? p = (wr).frozen? p) ∧ Below (wr.heap.size) (wr) W) (exact keep_ofP bel) (first | (go_at_call 28; have _t := tok1; clear _t tok1; have hq := (‹_ ∧ _ ∧ Below _ _ _›).2.2; have hqz := hq.size; refine (T1.out _ ((YX.below hq).more hqz) ((YY.below hq).more hqz)).mono ?_; rintro e v1 ⟨rfl, hv1⟩; have hqs1 := hq.size; have hs1 := hv1.size; (try simp at hqs1); (try simp at hs1)) | (go_at_call 22; have hq := (‹_ ∧ _ ∧ Below _ _ _›).2.2; have hqz := hq.size; refine (T3.out _ ((YY.below hq).more hqz)).mono ?_; rintro e v2 ⟨M, m, rfl, SM, hv2⟩; have hqs2 := hq.size; have hs2 := hv2.size; (try simp at hqs2); (try simp at hs2)) | (go_at_call 28; have hq := (‹_ ∧ _ ∧ Below _ _ _›).2.2; have hqz := hq.size; refine (T2.out _ M m ((YX.below hq).more hqz) SM).mono ?_; rintro e v3 ⟨rfl, hv3⟩; have hqs3 := hq.size; have hs3 := hv3.size; (try simp at hqs3); (try simp at hs3)))
                all_goals (go_wp2_with fail)
                all_goals (go_meet)
                all_goals (exact ⟨rfl, (‹_ ∧ _ ∧ Below _ _ _›).2.2⟩)
              · have hbW := fun d_ os => below_regrown wr d_ os
                have zS := hide (fun d_ os => Calls.regrown_of (T1.out (Go.Sort.grow (redrawn wr d_) os) ((YX.below (hbW d_ os)).more (hbW d_ os).size) ((YY.below (hbW d_ os)).more (hbW d_ os).size)))
                have re1 := cell_regrown e1 ; have re2 := cell_regrown e2 ; have re3 := cell_regrown e3 ; have rf1 := cell_regrown f1 ; have rf2 := cell_regrown f2 ; have rf3 := cell_regrown f3
                refine wp_region_quiet_below (by kernel_rfl) (lexB_of (by kernel_rfl)) ?_
                try dsimp only [List.append]
                repeat (go_big_quiet_step (first | (go_at_call 28; exact zS.out _ _)))
                refine wpQuiet_nil ?_
                intro _ hw'
                obtain ⟨⟨dq, osq⟩, hw''⟩ := hw'
                subst hw''
                go_wp2_with fail
                go_meet
                exact ⟨rfl, below_regrown wr dq osq⟩
            obtain ⟨rfl, hbc⟩ := hcut
            obtain ⟨wd, hwd⟩ : ∃ Q9 : World, Q9 = wc := ⟨_, rfl⟩
            subst hwd
            clear YX YY T1 T2 T3 e0 e1 e2 e3 f0 f1 f2 f3
            have hO2 := (HO.out.below hbc).wide (Nat.le_refl _) hbc.size
            skip
            replace hb := hb.trans (hbc.mono hzr)
            have hzd := hb.size
            clear HO hbc hzr
            cases ht : (t1 || t2)
            · have HT : Hid (twUp P j (k + 1) = twUp P j k) := twUp_no (by rw [HTW.out]; exact ht)
              have HO2 := hide hO2
              clear hO2
              go_wp2
              go_roundw
              case rel => exact ⟨k + 1, N, A', c', bs, by omega, by omega, hN, by go_num, rfl, (by unfold Hid; rw [HT.out]; exact HO2.out),  hb⟩
              case measure => simp [intOf]; omega
            · have HT : Hid (twUp P j (k + 1) = twUp P j k ++ [(j, k)]) := twUp_yes hjk (by rw [HTW.out]; exact ht)
              have hN2 : N + 1 ≤ 421 := by
                have q := twUp_len P j (k + 1) (by rw [HL.out]; exact hn20) (by omega) (by omega)
                rw [HT.out, List.length_append, hO2.ll] at q
                exact q
              have HO2 := hide hO2
              have hrow := hO2.row
              clear hO2
              have hone : ∀ u ∈ [pv wd.heap.size], u.oneCell' = true := by intro u hu; simp at hu; subst hu; rfl
              have HONE := hide hone
              clear hone
              go_wp2_with (at_builtin; go_loud (refine wpList_append_G rfl (.tmp 50) (.tmp 54) _ rfl w.heap.size 64 i0 _ 1 24 Try.underlying62 hi0 hz0 hz1 hz2 rfl (by omega) (.slice A' N c') N (bs.map pv) rfl ((hrow.alloc _).alloc _) (wd.heap.size + 1 + 1) (some ⟨wd.heap.size + 1, 0, none⟩) 1 1 [pv wd.heap.size] rfl ?_ HONE.out ?_ ?_ ?_ (N + 1) (bs.map pv ++ [pv wd.heap.size]) rfl rfl ?_; (exact reads_pv wd j k); (unfold maxLen; omega); omega; (simp; omega); intro A2 c2 w3 ho3 hb3 hg3 hn3))
              have hO3 := HO2.out.snoc (x := j) (y := k) hzd ho3 hg3
              skip
              have hb3' : Below w.heap.size w w3 := ((hb.alloc hzd _).alloc (by simp; omega) _).trans (hb3.mono (Nat.le_refl _))
              have HO3 := hide hO3
              clear hO3 ho3 hb3 hg3 hn3 hrow
              go_wp2
              go_roundw
              case rel => exact ⟨k + 1, N + 1, A2, c2, bs ++ [wd.heap.size], by omega, by omega, hN2, by go_num, rfl, (by unfold Hid; rw [HT.out]; exact HO3.out),  hb3'⟩
              case measure => simp [intOf]; omega
          · have hkn : k = n := by omega
            subst hkn
            have HT : Hid (OwnPP wr w.heap.size wr.heap.size A' N c' (twUp P (j + 1) (j + 1 + 1)) bs) := by
              unfold Hid
              rw [twUp_next, HL.out]
              exact HO.out
            go_wp2
            go_roundw
            case rel => exact ⟨j + 1, N, A', c', bs, by omega, hN, by go_num, rfl, HT.out, hb⟩
            case measure => simp [intOf]; omega
      · have hjn : j = n := by omega
        subst hjn
        have HT : Hid (OwnPP wr w.heap.size wr.heap.size A' N c' (twRes P) bs) := by
          unfold Hid
          rw [HR.out, ← twUp_end, HL.out]
          exact HO.out
        go_wp2
        go_ret
        exact ⟨A', N, c', bs, rfl, HT.out, hb⟩
end Go.Proofs.Ytccjedongkokoaa
