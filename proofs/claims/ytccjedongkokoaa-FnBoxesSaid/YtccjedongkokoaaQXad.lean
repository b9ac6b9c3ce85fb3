/- Contracts of the program's and the reference's functions (Way1, Way1b, Way2, Way3). -/
import Derived.Test.YtccjedongkokoaaRows
import Derived.Test.YtccjedongkokoaaQXab
import Derived.Test.YtccjedongkokoaaQXo
import Derived.Test.YtccjedongkokoaaQXaa
import Derived.Test.YtccjedongkokoaaQXac
import Derived.Test.YtccjedongkokoaaQXu
namespace Go.Proofs.Ytccjedongkokoaa
open Go.ChangeShapes Go.WideShapes Go.ChangeAt Go.RowKit
set_option linter.unusedVariables false
set_option linter.unusedSimpArgs false
set_option maxRecDepth 10000
section
variable {P : Program} {w : World}
theorem wpList_append_K {ops : Array Oper} {rest : List Oper} {o : Oper} {a : Act} {Q : Exit → Act → World → Prop} (hgd : o.guard = none) (s x : Operand) (t : TypeId)
    (ho : o.op = .call { callee := .builtin .append, args := #[s, x], argTypes := #[t, t] })
    (base : Nat) (e : TypeId) (i : TypeInfo) (z : Value) (size bytes : Nat) (ht : P.underlying t = some (.slice e)) (hi : P.info? e = some i) (hz : i.zero = some z)
    (hsize : i.size = size) (hby : i.bytes = bytes) (hzs : z.cells.size = size) (hsz : 0 < size)
    (v : Value) (n : Nat) (xs : List Value) (hs : a.eval s = v) (hown : w.ownsRow base e size v n xs)
    (B : Nat) (A : Option Addr) (m c : Nat) (news : List Value) (hx : a.eval x = .slice A m c) (hr : Reads w B size A m news) (h1 : ∀ u ∈ news, u.oneCell' = true)
    (h63 : n + m ≤ maxLen) (hbytes : (n + m) * bytes ≤ 140737488355328) (hbase : base ≤ w.heap.size)
    (N : Nat) (ys : List Value) (hN : n + m = N) (hys : xs ++ news = ys) (h : ∀ A' c' w', w'.ownsRow base e size (.slice A' N c') N ys → Below base w w' → w.grownBy w' v.ownBlock → ((Value.slice A' N c').ownBlock = v.ownBlock ∨ (Value.slice A' N c').ownBlock = some w.heap.size) → wpList P ops Q rest (a.put o.dst (.slice A' N c')) w') : wpList P ops Q (o :: rest) a w := by
  refine wpList_append_any w hgd s x t ho base e i z size bytes ht hi hz hsize hby hzs hsz v n xs hs hown B A m c news hx hr h1 h63 hbytes hbase ?_
  subst hN; subst hys
  intro v' w' h2 h3 h4
  obtain ⟨A', c', rfl⟩ := own_slice h2
  exact h A' c' w' h2 (grown_below h3 (fun k hk => (hown.lt k hk).1) hbase) h3 h4
end
theorem own_apart {w w' : World} {lo hi size n : Nat} {e : TypeId} {v2 v : Value} {xs : List Value} (ho : w.ownsRow lo e size v2 n xs) (hg : w.grownBy w' v.ownBlock) (h : ∀ k, v.ownBlock = some k → k < lo ∨ hi ≤ k) (top : ∀ k, v2.ownBlock = some k → k < hi) : w'.ownsRow lo e size v2 n xs :=
  own_grown ho hg fun k hk hr => by
    have h1 := (ho.lt k hk).1
    have h2 := top k hk
    rcases h k hr with h3 | h3 <;> omega
set_option maxHeartbeats 3200000 in
theorem i_IsAbove (s t : ByteArray) (w : World) (hs : s.size ≤ 16777216) (ht : t.size ≤ 16777216) (hf : sameFrame s.data.toList t.data.toList = true) :
    Calls Try.prog 90 #[.string s, .string t] w fun e w' => e = .returned (.bool (aboveL s.data.toList t.data.toList)) ∧ w = w' := by
  have hsf := fun (w : World) => i_SameFrame s t w hs ht
  simp only [hf] at hsf
  have HSF := hide hsf
  obtain ⟨htn, hs16⟩ := sameFrame_len hf
  have hlen : s.data.toList.length = s.size := by simp
  have hlen2 : t.data.toList.length = t.size := by simp
  have HI := Lib.hid (above_iff hf)
  have hend : cnt 102 (t.data.toList.take s.size) ≤ cnt 102 (s.data.toList.take s.size) := by
    rw [List.take_of_length_le (by omega), List.take_of_length_le (by omega)]
    have := (frame_iff.1 hf).2.2.2
    omega
  have HEND := Lib.hid hend
  have HLEN := Lib.hid hlen
  clear hsf hf hlen hlen2 hend
  go_enter Try.func90, Try.ntmps90
  go_wp2_with (go_at_call 108; refine (unhide HSF _).mono ?_; rintro e w' ⟨rfl, rfl⟩)
  go_loop [12] (fun i => ∃ (j : Nat), j ≤ s.size ∧ i = .int .i64 j ∧ Hid (∀ k, k < j → cnt 102 (t.data.toList.take k) ≤ cnt 102 (s.data.toList.take k))) (fun i => s.size - (intOf i).toNat)
  case atStart => exact ⟨0, Nat.zero_le _, rfl, fun k hk => absurd hk (by omega)⟩
  case round =>
    obtain ⟨j, hj, rfl, HA⟩ := hrel
    by_cases hlt : j < s.size
    · have tok1 : True := trivial
      obtain ⟨P, hP⟩ : ∃ x, cnt 102 (s.data.toList.take j) = x := ⟨_, rfl⟩
      obtain ⟨Q, hQ⟩ : ∃ x, cnt 102 (t.data.toList.take j) = x := ⟨_, rfl⟩
      have k1 := fun (W : World) => i_forwards s (j : Int) j W rfl (by omega) (by omega)
      have k2 := fun (W : World) => i_forwards t (j : Int) j W rfl (by omega) (by omega)
      rw [hP] at k1
      rw [hQ] at k2
      have H1 := hide k1
      have H2 := hide k2
      clear k1 k2
      by_cases hneg : P < Q
      · have hF : aboveL s.data.toList t.data.toList = false := by
          rw [← Bool.not_eq_true, HI.out]
          intro q
          have := q j (by rw [HLEN.out]; omega)
          omega
        have HF := Lib.hid hF
        clear hF hP hQ
        go_wp2_with (first | (go_at_call 127; have _t := tok1; clear _t tok1; refine (H1.out _).mono ?_; rintro e w' ⟨rfl, rfl⟩) | (go_at_call 127; refine (H2.out _).mono ?_; rintro e w' ⟨rfl, rfl⟩))
        go_ret
        exact ⟨by rw [HF.out]; rfl, rfl⟩
      · have hA2 : ∀ k, k < j + 1 → cnt 102 (t.data.toList.take k) ≤ cnt 102 (s.data.toList.take k) := by
          intro k hk
          by_cases hkj : k < j
          · exact HA.out k hkj
          · have : k = j := by omega
            subst this
            omega
        have HA2 := hide hA2
        clear hA2 hP hQ
        go_wp2_with (first | (go_at_call 127; have _t := tok1; clear _t tok1; refine (H1.out _).mono ?_; rintro e w' ⟨rfl, rfl⟩) | (go_at_call 127; refine (H2.out _).mono ?_; rintro e w' ⟨rfl, rfl⟩))
        go_round
        case rel => exact ⟨j + 1, by omega, by go_num, HA2.out⟩
        case measure => simp [intOf]; omega
    · have hje : j = s.size := by omega
      subst hje
      have hT : aboveL s.data.toList t.data.toList = true := HI.out.2 fun k hk => by
        rw [HLEN.out] at hk
        by_cases hk2 : k < s.size
        · exact HA.out k hk2
        · have : k = s.size := by omega
          subst this
          exact HEND.out
      have HT := Lib.hid hT
      clear hT
      go_wp2
      go_ret
      exact ⟨by rw [HT.out]; rfl, rfl⟩
def CornP (s : ByteArray) (l : List Int) (j : Nat) : Prop := (∀ x ∈ l, ∃ k : Nat, x = k ∧ k < j) ∧ ∀ k : Nat, k < j → cornerAny s k = true → (k : Int) ∈ l
set_option maxHeartbeats 1600000 in
theorem i_CornersV (s : ByteArray) (w : World) (hs : s.size ≤ 16777216) (h1 : isStrip s.data.toList = true) :
    Calls Try.prog 128 #[.string s] w fun e w' => ∃ l, CornP s l s.size ∧ l.length ≤ s.size ∧ FreshInts w.heap.size l w e w' := by
  have hq1 : ∀ W : World, Calls Try.prog 125 #[.string s] W fun e w' => e = .returned (.bool (isStrip s.data.toList)) ∧ W = w' := fun W => i_IsStrip s W (by unfold maxLen; omega)
  rw [h1] at hq1
  have HQ1 := hide hq1
  clear hq1
  obtain ⟨i0, hi0, hz0, hz1, hz2⟩ := info_parts info_int
  go_enter Try.func128, Try.ntmps128
  go_wp2_with (go_at_call 125; refine (unhide HQ1 _).mono ?_; rintro e w' ⟨rfl, rfl⟩)
  go_loopw [3, 11] (fun o i wr => ∃ (j N : Nat) (A' : Option Addr) (c' : Nat) (l : List Int), j ≤ s.size ∧ N ≤ j ∧ i = .int .i64 j ∧ o = .slice A' N c' ∧ Hid (l.length = N) ∧ Hid (CornP s l j) ∧ wr.ownsRow w.heap.size 3 1 (.slice A' N c') N (ints l) ∧ Below w.heap.size w wr) (fun _ i _ => s.size - (intOf i).toNat)
  case atStart =>
    have h := made_at (e := 3) (size := 1) w w.heap.size w.heap.size rfl (Nat.le_refl _)
    exact ⟨0, 0, _, _, [], Nat.zero_le _, Nat.le_refl _, rfl, rfl, rfl, ⟨fun x hx => by (cases hx), fun k hk => absurd hk (by omega)⟩, h, bel⟩
  case round =>
    obtain ⟨j, N, A', c', l, hj, hNj, rfl, rfl, HN, HP, hown, hb⟩ := hrel
    have hbs := hb.size
    by_cases hlt : j < s.size
    · cases hcr : cornerAny s (j : Int)
      · have HC := Lib.hid hcr
        have HP2 : Hid (CornP s l (j + 1)) := ⟨fun x hx => by obtain ⟨k, e, h⟩ := HP.out.1 x hx; exact ⟨k, e, by omega⟩, fun k hk hc => by
          by_cases q : k < j
          · exact HP.out.2 k q hc
          · have : k = j := by omega
            subst this; rw [hcr] at hc; cases hc⟩
        clear hcr
        go_wp2_with (go_at_call 135; refine (i_isCorner s _ _ hs).mono ?_; rintro e w1 ⟨rfl, m, rfl⟩; rw [HC.out])
        go_roundw
        case rel => exact ⟨j + 1, N, A', c', l, by omega, by omega, by go_num, rfl, HN, HP2, by exact hown, below_drewN hb _⟩
        case measure => simp [intOf]; omega
      · have HC := Lib.hid hcr
        have HP2 : Hid (CornP s (l ++ [(j : Int)]) (j + 1)) := ⟨fun x hx => by
          rcases List.mem_append.1 hx with h | h
          · obtain ⟨k, e, h⟩ := HP.out.1 x h; exact ⟨k, e, by omega⟩
          · simp at h; exact ⟨j, h, by omega⟩, fun k hk hc => by
          by_cases q : k < j
          · exact List.mem_append.2 (.inl (HP.out.2 k q hc))
          · have : k = j := by omega
            subst this; exact List.mem_append.2 (.inr (by simp))⟩
        have hone : ∀ u ∈ [Value.int .i64 (j : Int)], u.oneCell' = true := by intro u hu; simp at hu; subst hu; rfl
        clear hcr
        go_wp2_with (first | (go_at_call 135; refine (i_isCorner s _ _ hs).mono ?_; rintro e w1 ⟨rfl, m, rfl⟩; rw [HC.out]; obtain ⟨wq, hwq⟩ : ∃ W, W = wr.drewN m := ⟨_, rfl⟩; (have hownq : wq.ownsRow w.heap.size 3 1 (.slice A' N c') N (ints l) := (by rw [hwq]; exact hown)); (have hbq : Below w.heap.size w wq := (by rw [hwq]; exact below_drewN hb _)); rw [← hwq]; clear hwq hown hb; have hbs := hbq.size) | (at_builtin; refine wpList_append_N _ rfl (.tmp 17) (.tmp 19) _ rfl w.heap.size 3 i0 _ 1 8 Try.underlying64 hi0 hz0 hz1 hz2 rfl (by omega) (.slice A' N c') N (ints l) rfl (hownq.alloc _) (wq.heap.size + 1) (some ⟨wq.heap.size, 0, none⟩) 1 1 [Value.int .i64 (j : Int)] rfl (reads_one _ _) hone ?_ ?_ ?_ (N + 1) (ints (l ++ [(j : Int)])) rfl (ints_snoc l _).symm ?_; (unfold maxLen; omega); omega; (simp; omega); intro A2 c2 w3 ho3 hb3))
        go_roundw
        case rel => exact ⟨j + 1, N + 1, A2, c2, l ++ [(j : Int)], by omega, by omega, by go_num, rfl, by unfold Hid; rw [List.length_append, HN.out]; rfl, HP2, ho3, bel⟩
        case measure => simp [intOf]; omega
    · have hje : j = s.size := by omega
      subst hje
      have HF := hide (fresh_ints (l := l) HN.out hown hb)
      have hN := HN.out
      clear hown
      go_wp2
      go_ret
      exact ⟨l, HP.out, by omega, unhide HF⟩
def RaiseP (s : ByteArray) (lc l : List Int) (j : Nat) : Prop := (∀ x ∈ l, ∃ k : Nat, x = k ∧ k < s.size ∧ cornerB 100 s k = true) ∧ ∀ i (hi : i < lc.length), i < j → cornerB 100 s lc[i] = true → lc[i] ∈ l
set_option maxHeartbeats 1600000 in
theorem i_RaisesV (s : ByteArray) (w : World) (hs : s.size ≤ 16777216) (h1 : isStrip s.data.toList = true) :
    Calls Try.prog 91 #[.string s] w fun e w' => ∃ l : List Int, ((∀ x ∈ l, ∃ k : Nat, x = k ∧ k < s.size ∧ cornerB 100 s k = true) ∧ ∀ k : Nat, k < s.size → cornerB 100 s k = true → (k : Int) ∈ l) ∧ l.length ≤ s.size ∧ FreshInts w.heap.size l w e w' := by
  have hcv := fun (W : World) => i_CornersV s W hs h1
  have HCV := hide hcv
  clear hcv
  obtain ⟨i0, hi0, hz0, hz1, hz2⟩ := info_parts info_int
  go_enter Try.func91, Try.ntmps91
  go_wp2_with fail
  have h0 := made_at (e := 3) (size := 1) w w.heap.size w.heap.size rfl (Nat.le_refl _)
  obtain ⟨w0, hw0⟩ : ∃ x, w.alloc (.cells #[] 3) = x := ⟨_, rfl⟩
  have hb0 : Below w.heap.size w w0 := by rw [← hw0]; exact bel
  rw [hw0] at h0 ⊢
  have hz00 := hb0.size
  refine (HCV.out _).mono ?_
  rintro e w1 ⟨lc, hcp, hlc, Ac, cc, rfl, hoc, hb1⟩
  have h01 := own_below h0 hb1
  have hbw1 : Below w.heap.size w w1 := hb0.trans (hb1.mono hz00)
  have hs1 := hbw1.size
  have hs01 := hb1.size
  have hne0 : ∀ k, (Value.slice (some ⟨w.heap.size, 0, none⟩) 0 0).ownBlock = some k → k < w0.heap.size ∨ w1.heap.size ≤ k := fun k hk => .inl (h0.lt k hk).2
  have topC : ∀ k, (Value.slice Ac lc.length cc).ownBlock = some k → k < w1.heap.size := fun k hk => (hoc.lt k hk).2
  obtain ⟨M, hM⟩ : ∃ x, lc.length = x := ⟨_, rfl⟩
  have HM := Lib.hid hM
  have HCP := hide hcp
  rw [hM] at hlc hoc topC ⊢
  clear hw0 h0 hb0 hb1 hcp hM
  go_wp2
  go_loopw [3, 10] (fun o i wr => ∃ (j N : Nat) (A' : Option Addr) (c' : Nat) (l : List Int), j ≤ M ∧ N ≤ j ∧ i = .int .i64 j ∧ o = .slice A' N c' ∧ Hid (l.length = N) ∧ Hid (RaiseP s lc l j) ∧ wr.ownsRow w.heap.size 3 1 (.slice A' N c') N (ints l) ∧ Below w.heap.size w wr ∧ wr.ownsRow w0.heap.size 3 1 (.slice Ac M cc) M (ints lc) ∧ (∀ k, (Value.slice A' N c').ownBlock = some k → k < w0.heap.size ∨ w1.heap.size ≤ k) ∧ w1.heap.size ≤ wr.heap.size) (fun _ i _ => M - (intOf i).toNat)
  case atStart => exact ⟨0, 0, _, _, [], Nat.zero_le _, Nat.le_refl _, rfl, rfl, rfl, ⟨fun x hx => by (cases hx), fun i hi h => absurd h (by omega)⟩, h01, hbw1, hoc, hne0, Nat.le_refl _⟩
  case round =>
    obtain ⟨j, N, A', c', l, hj, hNj, rfl, rfl, HN, HP, hown, hb, hCr, hne, hzz⟩ := hrel
    have hbs := hb.size
    have hRr := Reads.of_own hCr
    have HNE := hide hne
    clear h01 hbw1 hoc hne0 hne
    by_cases hlt : j < M
    · obtain ⟨hj1, ad, rfl, hab, hcl⟩ := ints_at hRr hlt
      obtain ⟨k, hk, hks⟩ := HCP.out.1 _ (List.getElem_mem hj1)
      rw [hk] at hcl
      clear hRr
      cases hcr : cornerB 100 s (k : Int)
      · have HC := Lib.hid hcr
        have HP2 : Hid (RaiseP s lc l (j + 1)) := ⟨HP.out.1, fun i hi h hc => by
          by_cases q : i < j
          · exact HP.out.2 i hi q hc
          · have : i = j := by omega
            subst this; rw [hk, hcr] at hc; cases hc⟩
        clear hcr hk
        go_wp2_with (go_at_call 102; refine (i_IsValley s _ _ hs).mono ?_; rw [HC.out]; rintro e w9 ⟨rfl, m, rfl⟩)
        go_roundw
        case rel => exact ⟨j + 1, N, A', c', l, by omega, by omega, by go_num, rfl, HN, HP2, by exact hown, below_drewN hb _, own_drewN hCr _, HNE.out, hzz⟩
        case measure => simp [intOf]; omega
      · have HC := Lib.hid hcr
        have HP2 : Hid (RaiseP s lc (l ++ [(k : Int)]) (j + 1)) := ⟨fun x hx => by
          rcases List.mem_append.1 hx with h | h
          · exact HP.out.1 x h
          · simp at h; exact ⟨k, h, hks, hcr⟩, fun i hi h hc => by
          by_cases q : i < j
          · exact List.mem_append.2 (.inl (HP.out.2 i hi q hc))
          · have : i = j := by omega
            subst this; rw [hk]; exact List.mem_append.2 (.inr (by simp))⟩
        have hone : ∀ u ∈ [Value.int .i64 (k : Int)], u.oneCell' = true := by intro u hu; simp at hu; subst hu; rfl
        have HONE := hide hone
        have HTOP := hide topC
        clear hcr hk hone
        go_wp2_with (first | (go_at_call 102; refine (i_IsValley s _ _ hs).mono ?_; rw [HC.out]; rintro e w9 ⟨rfl, m, rfl⟩; obtain ⟨wq, hwq⟩ : ∃ W, W = wr.drewN m := ⟨_, rfl⟩; (have hownq : wq.ownsRow w.heap.size 3 1 (.slice A' N c') N (ints l) := (by rw [hwq]; exact hown)); (have hbq : Below w.heap.size w wq := (by rw [hwq]; exact below_drewN hb _)); (have hCq : wq.ownsRow w0.heap.size 3 1 (.slice (some ad) M cc) M (ints lc) := (by rw [hwq]; exact own_drewN hCr _)); (have hzq : w1.heap.size ≤ wq.heap.size := (by rw [hwq]; exact hzz)); rw [← hwq]; clear hwq hown hb hCr hzz; have hbs := hbq.size) | (at_builtin; refine wpList_append_K rfl (.tmp 17) (.tmp 19) _ rfl w.heap.size 3 i0 _ 1 8 Try.underlying64 hi0 hz0 hz1 hz2 rfl (by omega) (.slice A' N c') N (ints l) rfl (hownq.alloc _) (wq.heap.size + 1) (some ⟨wq.heap.size, 0, none⟩) 1 1 [Value.int .i64 (k : Int)] rfl (reads_one _ _) HONE.out ?_ ?_ ?_ (N + 1) (ints (l ++ [(k : Int)])) rfl (ints_snoc l _).symm ?_; (unfold maxLen; omega); omega; (simp; omega); intro A2 c2 w3 ho3 hb3 hg3 hn3; have hC3 := own_apart (hCq.alloc _) hg3 HNE.out HTOP.out; have hzw3 := hg3.size; (simp at hzw3)))
        go_roundw
        case rel =>
          refine ⟨j + 1, N + 1, A2, c2, l ++ [(k : Int)], by omega, by omega, by go_num, rfl, by unfold Hid; rw [List.length_append, HN.out]; rfl, HP2, ho3, bel, hC3, fun q hq => ?_, by omega⟩
          rcases hn3 with h | h
          · exact HNE.out q (h ▸ hq)
          · rw [h] at hq
            injection hq with hq
            simp at hq
            exact .inr (by omega)
        case measure => simp [intOf]; omega
    · have hje : j = M := by omega
      subst hje
      have HF := hide (fresh_ints (l := l) HN.out hown hb)
      have hN := HN.out
      have hR : (∀ x ∈ l, ∃ k : Nat, x = k ∧ k < s.size ∧ cornerB 100 s k = true) ∧ ∀ k : Nat, k < s.size → cornerB 100 s k = true → (k : Int) ∈ l := by
        refine ⟨HP.out.1, fun k hk hc => ?_⟩
        have hca : cornerAny s (k : Int) = true := by
          unfold cornerB at hc
          simp only [Bool.and_eq_true] at hc
          exact hc.1.2
        obtain ⟨i, hi, e⟩ := List.getElem_of_mem (HCP.out.2 k hk hca)
        have := HP.out.2 i hi (by rw [HM.out] at hi; exact hi) (by rw [e]; exact hc)
        rw [e] at this
        exact this
      have HR := hide hR
      clear hown hCr hRr hR
      go_wp2
      go_ret
      exact ⟨l, HR.out, by omega, unhide HF⟩
end Go.Proofs.Ytccjedongkokoaa
namespace Go.Proofs.Ytccjedongkokoaa
open Go.ChangeShapes Go.WideShapes Go.ChangeAt Go.RowKit
set_option linter.unusedVariables false
set_option linter.unusedSimpArgs false
set_option maxRecDepth 10000
def strOf : Value → ByteArray
  | .string s => s
  | _ => ⟨#[]⟩
set_option maxHeartbeats 3200000 in
theorem i_WayUp (s t : ByteArray) (w : World) (hs : s.size ≤ 16777216) (ht : t.size ≤ 16777216) (hf : sameFrame t.data.toList s.data.toList = true) (ha : aboveL t.data.toList s.data.toList = true) :
    Calls Try.prog 48 #[.string s, .string t] w fun e w' => ∃ l, Way s l t ∧ l.length ≤ 256 ∧ FreshInts w.heap.size l w e w' := by
  obtain ⟨i0, hi0, hz0, hz1, hz2⟩ := info_parts info_int
  have kA := fun (x : ByteArray) (hx : x.size ≤ 16777216) (W : World) (h : sameFrame t.data.toList x.data.toList = true) => i_IsAbove t x W ht hx h
  have HA := hide kA
  have hA0 := kA s hs
  clear kA
  rw [ha] at hA0
  have HA0 := hide (fun W => hA0 W hf)
  have ht16 := (sameFrame_len hf).2
  have hWB : ∀ (l : List Int) (x : ByteArray), Way s l x → l.length ≤ 256 := fun l x h => by
    have h1 := h.room
    have h2 := roomOf_bd s.data.toList
    have h3 := roomOf_bd x.data.toList
    omega
  have HWB := hide hWB
  have HF := Lib.hid hf
  have HAB := Lib.hid ha
  clear hA0 hWB hf ha
  go_enter Try.func48, Try.ntmps48
  go_wp2_with (go_at_call 90; refine (HA0.out _).mono ?_; rintro e w' ⟨rfl, rfl⟩)
  go_loopw [0, 5] (fun x o wr => ∃ (y : ByteArray) (N : Nat) (A' : Option Addr) (c' : Nat) (l : List Int), x = .string y ∧ y.size ≤ 16 ∧ N ≤ 256 ∧ o = .slice A' N c' ∧ Hid (l.length = N) ∧ Hid (Way s l y) ∧ Hid (sameFrame t.data.toList y.data.toList = true) ∧ Hid (aboveL t.data.toList y.data.toList = true) ∧ wr.ownsRow w.heap.size 3 1 (.slice A' N c') N (ints l) ∧ Below w.heap.size w wr) (fun x _ _ => (roomOf t.data.toList - roomOf (strOf x).data.toList).toNat)
  case atStart =>
    have h := made_at (e := 3) (size := 1) w w.heap.size w.heap.size rfl (Nat.le_refl _)
    have hsl := frame_len HF.out
    have : s.data.toList.length = s.size := by simp
    have : t.data.toList.length = t.size := by simp
    exact ⟨s, 0, _, _, [], rfl, by omega, by omega, rfl, rfl, rfl, HF.out, HAB.out, h, bel⟩
  case round =>
    obtain ⟨y, N, A', c', l, rfl, hy, hN, rfl, HN, HW, HFy, HAy, hown, hb⟩ := hrel
    have hbs := hb.size
    by_cases hne : y = t
    · have hbq := beq_toList_true hne
      have HWt : Hid (Way s l t) := by unfold Hid; rw [← hne]; exact HW.out
      have HFr := hide (fresh_ints (l := l) HN.out hown hb)
      clear hne hown
      go_wp2
      go_ret
      exact ⟨l, HWt.out, by rw [HN.out]; exact hN, unhide HFr⟩
    · have hbq := beq_toList_false hne
      have hex := raise_ex HFy.out HAy.out hne
      have hys := (frame_iff.1 HFy.out).2.1
      have hrv := fun (W : World) => i_RaisesV y W (by omega) hys
      have HRV := hide hrv
      have HEX := hide hex
      clear hrv hex hne
      go_wp2_with fail
      refine (HRV.out _).mono ?_
      rintro e w1 ⟨r, hr, hrl, Ar, cr, rfl, hor, hb1⟩
      have hown1 := own_below hown hb1
      have hbw1 := hb.trans (hb1.mono hbs)
      have hRr := Reads.of_own hor
      obtain ⟨R, hR⟩ : ∃ x, r.length = x := ⟨_, rfl⟩
      have HR := Lib.hid hR
      have HRP := hide hr
      rw [hR] at hrl hRr ⊢
      have hz1' := hbw1.size
      clear hr hor hR hown hb hb1
      go_wp2
      go_loopw [0, 5, 20] (fun x o i wq => ∃ (j m : Nat), x = .string y ∧ o = .slice A' N c' ∧ j ≤ R ∧ i = .int .i64 j ∧ Hid (∀ q (hq : q < r.length), q < j → aboveL t.data.toList (swapB y r[q]).data.toList = false) ∧ wq = w1.drewN m) (fun _ _ i _ => R - (intOf i).toNat)
      case atStart => exact ⟨0, 0, rfl, rfl, Nat.zero_le _, rfl, fun q hq h => absurd h (by omega), rfl⟩
      case round =>
        obtain ⟨j, m, rfl, rfl, hj, rfl, HNO, rfl⟩ := hrel
        by_cases hlt : j < R
        · obtain ⟨hj1, ad, rfl, hab, hcl⟩ := ints_at hRr hlt
          obtain ⟨k, hk, hks, hkc⟩ := HRP.out.1 _ (List.getElem_mem hj1)
          rw [hk] at hcl
          have hkp : 0 < k := by
            obtain ⟨p, _, _, _, e3⟩ := valley_data hkc
            omega
          obtain ⟨K, hKk⟩ : ∃ K, k = K + 1 := ⟨k - 1, by omega⟩
          have kT := fun (W : World) => i_turnedAt y k K W (by omega) hKk hks
          have hzs : (swapB y (k : Int)).size = y.size := swapB_size (by omega) hkc
          have kAb := fun (W : World) => HA.out (swapB y (k : Int)) (by rw [hzs]; omega) W (frame_swap HFy.out hkc)
          have hroom := (room_swap hkc).2.1
          have hfr := Lib.hid (frame_swap HFy.out hkc)
          have HKC := Lib.hid hkc
          have hyz : (swapB y (k : Int)).size ≤ 16 := by omega
          have HSNOC := Lib.hid (HW.out.snoc hkc)
          obtain ⟨z, hz⟩ : ∃ z, swapB y (k : Int) = z := ⟨_, rfl⟩
          rw [hz] at kT kAb hroom hfr hyz HSNOC
          obtain ⟨b, hbb⟩ : ∃ b, aboveL t.data.toList z.data.toList = b := ⟨_, rfl⟩
          rw [hbb] at kAb
          have HT := hide kT
          have HAb := hide kAb
          have HZ := Lib.hid hz
          have HKK := Lib.hid hk
          clear kT kAb hzs hk hkc hKk hz
          cases b
          · have HNO2 : Hid (∀ q (hq : q < r.length), q < j + 1 → aboveL t.data.toList (swapB y r[q]).data.toList = false) := fun q hq h => by
              by_cases hqj : q < j
              · exact HNO.out q hq hqj
              · have : q = j := by omega
                subst this
                rw [HKK.out, HZ.out]
                exact hbb
            clear hbb
            go_wp2_with (first | (go_at_call 92; refine (HT.out _).mono ?_; rintro e w9 ⟨rfl, m9, rfl⟩) | (go_at_call 90; refine (HAb.out _).mono ?_; rintro e w9 ⟨rfl, rfl⟩))
            go_roundw
            case rel => exact ⟨j + 1, m + m9, rfl, rfl, by omega, by go_num, HNO2.out, by first | rfl | rw [World.drewN_drewN]⟩
            case measure => simp [intOf]; omega
          · have HAz := Lib.hid hbb
            have hrm := room_mono (s := z) (t := t) (by
              obtain ⟨a1, a2, a3, a4⟩ := frame_iff.1 hfr.out
              exact frame_iff.2 ⟨a2, a1, a3.symm, a4.symm⟩) (fun q _ => above_all hfr.out HAz.out q)
            have hone : ∀ u ∈ [Value.int .i64 (k : Int)], u.oneCell' = true := by intro u hu; simp at hu; subst hu; rfl
            have HONE := hide hone
            have hN2 : N + 1 ≤ 256 := by
              have h1 := HWB.out _ _ HSNOC.out
              rw [List.length_append, HN.out] at h1
              exact h1
            have HSN : Hid (Way s (l ++ [(k : Int)]) z) := by
              unfold Hid
              exact HSNOC.out
            clear hbb hone
            go_wp2_with (first | (go_at_call 92; refine (HT.out _).mono ?_; rintro e w9 ⟨rfl, m9, rfl⟩; rw [World.drewN_drewN]; obtain ⟨wq, hwq⟩ : ∃ W, W = w1.drewN (m + m9) := ⟨_, rfl⟩; (have hownq : wq.ownsRow w.heap.size 3 1 (.slice A' N c') N (ints l) := (by rw [hwq]; exact own_drewN hown1 _)); (have hbq : Below w.heap.size w wq := (by rw [hwq]; exact below_drewN hbw1 _)); rw [← hwq]; clear hwq; have hbsq := hbq.size) | (go_at_call 90; refine (HAb.out _).mono ?_; rintro e w9 ⟨rfl, rfl⟩) | (at_builtin; refine wpList_append_N _ rfl (.tmp 30) (.tmp 32) _ rfl w.heap.size 3 i0 _ 1 8 Try.underlying64 hi0 hz0 hz1 hz2 rfl (by omega) (.slice A' N c') N (ints l) rfl (hownq.alloc _) (wq.heap.size + 1) (some ⟨wq.heap.size, 0, none⟩) 1 1 [Value.int .i64 (k : Int)] rfl (reads_one _ _) HONE.out ?_ ?_ ?_ (N + 1) (ints (l ++ [(k : Int)])) rfl (ints_snoc l _).symm ?_; (unfold maxLen; omega); omega; (simp; omega); intro A2 c2 w3 ho3 hb3))
            go_roundw
            case rel => exact ⟨z, N + 1, A2, c2, l ++ [(k : Int)], rfl, hyz, hN2, rfl, by unfold Hid; rw [List.length_append, HN.out]; rfl, HSN.out, hfr.out, HAz.out, ho3, bel⟩
            case measure => simp only [strOf]; omega
        · exfalso
          obtain ⟨k, hk, hkc, hka⟩ := HEX.out
          obtain ⟨q, hq, e⟩ := List.getElem_of_mem (HRP.out.2 k (by simpa using hk) hkc)
          have := HNO.out q hq (by rw [HR.out] at hq; omega)
          rw [e, hka] at this
          cases this
end Go.Proofs.Ytccjedongkokoaa
namespace Go.Proofs.Ytccjedongkokoaa
open Go.ChangeShapes Go.WideShapes Go.ChangeAt Go.RowKit
set_option linter.unusedVariables false
set_option linter.unusedSimpArgs false
set_option maxRecDepth 10000
set_option maxHeartbeats 800000 in
theorem i_CanAdd (d f : Int) (B : Nat) (A : Option Addr) (n c : Nat) (ss : List ByteArray) (F L T : Int) (w : World) (hS : Strs w B A n ss) (hB : B ≤ w.heap.size) :
    Calls Try.prog 19 #[.agg #[.int .i64 d, .int .i64 f, .slice A n c], .agg #[.int .i64 F, .int .i64 L, .int .i64 T]] w fun e w' => e = .returned (.bool (canAdd d f ss F L T)) ∧ Below w.heap.size w w' := by
  have hres : (boxRes 100 d f ss F L T).2 = canAdd d f ss F L T := by
    cases h : canAdd d f ss F L T
    · rw [canAdd_no h]
    · unfold boxRes; rw [if_pos (canAdd_yes h)]
  have hbx := fun (W : World) (h : Strs W B A n ss) (hz : B ≤ W.heap.size) => i_boxed_RaiseAt d f B A n c ss F L T W h hz
  obtain ⟨r1, hr1⟩ : ∃ x, (boxRes 100 d f ss F L T).1 = x := ⟨_, rfl⟩
  obtain ⟨r2, hr2⟩ : ∃ x, canAdd d f ss F L T = x := ⟨_, rfl⟩
  rw [hres, hr1, hr2] at hbx
  rw [hr2]
  have HBX := hide hbx
  clear hbx hres hr1 hr2
  go_enter Try.func19, Try.ntmps19
  go_wp2_with fail
  have hb0 : Below w.heap.size w ((w.alloc (.cells #[.int .i64 d, .int .i64 f, .slice A n c] 26)).alloc (.cells #[.int .i64 F, .int .i64 L, .int .i64 T] 39)) := bel
  generalize (w.alloc (.cells #[.int .i64 d, .int .i64 f, .slice A n c] 26)).alloc (.cells #[.int .i64 F, .int .i64 L, .int .i64 T] 39) = w0 at *
  refine (HBX.out w0 (hS.below (hb0.mono hB)) (Nat.le_trans hB hb0.size)).mono ?_
  rintro e w1 ⟨A1, c1, rfl, ho1, hb1⟩
  have hbw1 : Below w.heap.size w w1 := hb0.trans (hb1.mono hb0.size)
  have hs1 := hbw1.size
  clear ho1 hb0 hb1
  go_wp2
  go_ret
  exact ⟨rfl, bel⟩
theorem s_CanRaise (s : ByteArray) (k : Int) (w : World) (hs : s.size ≤ 16777216) :
    Calls Try.prog 16 #[.string s, .int .i64 k] w fun e w' => e = .returned (.bool (cornerB 100 s k)) ∧ ∃ m, w' = w.drewN m := by
  go_enter Try.func16, Try.ntmps16
  go_wp2_with (go_at_call 57; refine (s_IsValley s k _ hs).mono ?_; rintro e w' ⟨rfl, m, rfl⟩)
  go_ret
  exact ⟨rfl, _, rfl⟩
set_option maxHeartbeats 6400000 in
theorem i_WidestBox (d f : Int) (B : Nat) (A : Option Addr) (n c : Nat) (ss : List ByteArray) (K : Nat) (T : Int) (w : World) (hS : Strs w B A n ss) (hB : B ≤ w.heap.size) (hn : n ≤ 255) (hc : cardOk d f ss = true) (hkn' : K < n) (hK2 : K < ss.length) :
    Calls Try.prog 15 #[.agg #[.int .i64 d, .int .i64 f, .slice A n c], .int .i64 (K : Int), .int .i64 T] w fun e w' => ((cornerB 100 ss[K] T = false ∧ e = .returned (.tuple #[.agg #[.int .i64 0, .int .i64 0, .int .i64 0], .bool false])) ∨ ∃ F L : Nat, Wide ss K T F L ∧ e = .returned (.tuple #[.agg #[.int .i64 (F : Int), .int .i64 (L : Int), .int .i64 T], .bool true])) ∧ Below w.heap.size w w' := by
  have hl := hS.len
  have HL := Lib.hid hl
  have HC := Lib.hid hc
  have hin : inB (K : Int) 0 ((n : Int) - 1) = true := inB_iff'.2 ⟨by omega, by omega⟩
  have HIN := Lib.hid hin
  clear hl hc hin
  go_enter Try.func15, Try.ntmps15
  go_wp2_with fail
  have hka := blk_alloc (blk_new w (.cells #[.int .i64 d, .int .i64 f, .slice A n c] 26)) (.cells #[.int .i64 0, .int .i64 0, .int .i64 0] 39)
  have hkr : ((w.alloc (.cells #[.int .i64 d, .int .i64 f, .slice A n c] 26)).alloc (.cells #[.int .i64 0, .int .i64 0, .int .i64 0] 39)).heap[w.heap.size + 1]? = some (.cells #[.int .i64 0, .int .i64 0, .int .i64 0] 39 (0, 0)) := blk_new_at _ _ (by simp)
  have hb0 : Below w.heap.size w ((w.alloc (.cells #[.int .i64 d, .int .i64 f, .slice A n c] 26)).alloc (.cells #[.int .i64 0, .int .i64 0, .int .i64 0] 39)) := bel
  have hs0 : ((w.alloc (.cells #[.int .i64 d, .int .i64 f, .slice A n c] 26)).alloc (.cells #[.int .i64 0, .int .i64 0, .int .i64 0] 39)).heap.size = w.heap.size + 2 := by simp
  generalize (w.alloc (.cells #[.int .i64 d, .int .i64 f, .slice A n c] 26)).alloc (.cells #[.int .i64 0, .int .i64 0, .int .i64 0] 39) = w0 at *
  refine (i_hasStrip d f B A n c ss (K : Int) w0 (hS.below (hb0.mono hB)) (Nat.le_trans hB hb0.size)).mono ?_
  rw [HC.out, HIN.out]
  rintro e w1 ⟨rfl, hb1⟩
  have hka1 := blk_next hka hb1
  have hkr1 := blk_next hkr hb1
  have hbw1 : Below w.heap.size w w1 := hb0.trans (hb1.mono hb0.size)
  have hs1 := hb1.size
  clear hka hkr hb0 hb1
  obtain ⟨_, ad, rfl, hab, hcs, hsb⟩ := (hS.below (hbw1.mono hB)).at_ (k := K) hkn'
  obtain ⟨hy0, hy1, hy2, hyl⟩ := blk3 hka1
  cases hv : cornerB 100 ss[K] T
  · have HV := Lib.hid hv
    clear hv
    obtain ⟨hz0, hz1, hz2, hzl⟩ := blk3 hkr1
    have hf0 := (blk_cells hkr1 0).2
    have hf1 := (blk_cells hkr1 1).2
    have hf2 := (blk_cells hkr1 2).2
    go_wp2_with (go_at_call 56; refine (i_CanRaise _ _ _ hsb).mono ?_; rw [HV.out]; rintro e w' ⟨rfl, m, rfl⟩)
    refine bodyPost_ret (v := .tuple #[.agg #[.int .i64 0, .int .i64 0, .int .i64 0], .bool false]) (by simp [results, Try.results15, go_sem, *]) rfl ?_
    exact ⟨.inl ⟨HV.out, rfl⟩, bel⟩
  · have HV := Lib.hid hv
    clear hv
    go_wp2_with (go_at_call 56; refine (i_CanRaise _ _ _ hsb).mono ?_; rw [HV.out]; rintro e w' ⟨rfl, m0, rfl⟩; obtain ⟨wv, hwv⟩ : ∃ x, x = w1.drewN m0 := ⟨_, rfl⟩; rw [← hwv]; have hbwv : Below w.heap.size w wv := (by rw [hwv]; exact below_drewN hbw1 _); have hkav : wv.heap[w.heap.size]? = some (.cells #[.int .i64 d, .int .i64 f, .slice (some ad) n c] 26 (0, 0)) := (by rw [hwv]; exact hka1); have hkrv : wv.heap[w.heap.size + 1]? = some (.cells #[.int .i64 0, .int .i64 0, .int .i64 0] 39 (0, 0)) := (by rw [hwv]; exact hkr1); have hsv : w0.heap.size ≤ wv.heap.size := (by rw [hwv]; exact hs1); clear hwv hka1 hkr1 hbw1 hs1 hy0 hy1 hy2 hyl hcs)
    have hkb := blk_new wv (.cells #[.int .i64 (K : Int), .int .i64 (K : Int), .int .i64 T] 39)
    have hka2 := blk_alloc hkav (.cells #[.int .i64 (K : Int), .int .i64 (K : Int), .int .i64 T] 39)
    have hkr2 := blk_alloc hkrv (.cells #[.int .i64 (K : Int), .int .i64 (K : Int), .int .i64 T] 39)
    have hwz := hbwv.size
    have hbw2 : Below w.heap.size w (wv.alloc (.cells #[.int .i64 (K : Int), .int .i64 (K : Int), .int .i64 T] 39)) := hbwv.trans ((Below.refl _ _).alloc hwz _)
    have hs2 : (wv.alloc (.cells #[.int .i64 (K : Int), .int .i64 (K : Int), .int .i64 T] 39)).heap.size = wv.heap.size + 1 := by simp
    generalize wv.alloc (.cells #[.int .i64 (K : Int), .int .i64 (K : Int), .int .i64 T] 39) = w2 at *
    clear hkav hkrv hbwv
    obtain ⟨G, hG⟩ : ∃ G, G = wv.heap.size := ⟨_, rfl⟩
    rw [← hG] at hkb ⊢
    have hGw : w.heap.size + 2 ≤ G := by omega
    have hG2 : G < w2.heap.size := by omega
    clear hG hs2
    have HA0 : Hid (∀ i (hi : i < ss.length), K ≤ i → i ≤ K → cornerB 100 ss[i] T = true) := fun i hi h1 h2 => by
      have : i = K := by omega
      subst this
      exact HV.out
    go_loopw [] (fun wr => ∃ (F : Nat), F ≤ K ∧ Hid (∀ i (hi : i < ss.length), F ≤ i → i ≤ K → cornerB 100 ss[i] T = true) ∧ wr.heap[G]? = some (.cells #[.int .i64 (F : Int), .int .i64 (K : Int), .int .i64 T] 39 (0, 0)) ∧ wr.heap[w.heap.size]? = some (.cells #[.int .i64 d, .int .i64 f, .slice (some ad) n c] 26 (0, 0)) ∧ wr.heap[w.heap.size + 1]? = some (.cells #[.int .i64 0, .int .i64 0, .int .i64 0] 39 (0, 0)) ∧ Below w.heap.size w wr ∧ G < wr.heap.size) (fun wr => (intOf ((wr.cell? ⟨G, 0, none⟩).getD (.int .i64 0))).toNat)
    case atStart => exact ⟨K, Nat.le_refl _, HA0.out, hkb, hka2, hkr2, hbw2, hG2⟩
    case round =>
      clear hkb hka2 hkr2 hbw2
      obtain ⟨F, hF, HAF, hkb, hka, hkr, hb, hGl⟩ := hrel
      obtain ⟨hx0, hx1, hx2, hxl⟩ := blk3 hkb
      obtain ⟨hy0, hy1, hy2, hyl⟩ := blk3 hka
      have hfb0 := (blk_cells hkb 0).2
      by_cases h0 : 0 < F
      · obtain ⟨K1, hK1⟩ : ∃ K1, K1 + 1 = F := ⟨F - 1, by omega⟩
        obtain ⟨hj3, ad', e', hab', hcs, hsb⟩ := (hS.below (hb.mono hB)).at_ (k := K1) (by omega)
        injection e' with e'
        subst e'
        have hidx : ((F : Int) - 1).toNat = K1 := by omega
        have hq1 : (0 : Int) ≤ (F : Int) - 1 := by omega
        have hq2 : (F : Int) - 1 < (n : Int) := by omega
        cases hv : cornerB 100 ss[K1] T
        · have HV := Lib.hid hv
          have HLO : Hid (∀ i (hi : i < ss.length), i + 1 = F → cornerB 100 ss[i] T = false) := fun i hi e => by
            have : i = K1 := by omega
            subst this
            exact hv
          clear hv
          go_wp2_with (go_at_call 56; refine (i_CanRaise _ _ _ hsb).mono ?_; rw [HV.out]; rintro e w' ⟨rfl, m, rfl⟩)
          obtain ⟨wo, hwo⟩ : ∃ wo : World, wo = wr.drewN m := ⟨_, rfl⟩
          rw [← hwo]
          have hb : Below w.heap.size w wo := by rw [hwo]; first | exact hb | exact below_drewN hb _
          have hkb : wo.heap[G]? = some (.cells #[.int .i64 (F : Int), .int .i64 (K : Int), .int .i64 T] 39 (0, 0)) := by rw [hwo]; exact hkb
          have hka : wo.heap[w.heap.size]? = some (.cells #[.int .i64 d, .int .i64 f, .slice (some ad) n c] 26 (0, 0)) := by rw [hwo]; exact hka
          have hkr : wo.heap[w.heap.size + 1]? = some (.cells #[.int .i64 0, .int .i64 0, .int .i64 0] 39 (0, 0)) := by rw [hwo]; exact hkr
          have hGl : G < wo.heap.size := by rw [hwo]; exact hGl
          clear hwo hx0 hx1 hx2 hxl hy0 hy1 hy2 hyl hfb0
          go_loopw [] (fun wr => ∃ (L : Nat), K ≤ L ∧ L < n ∧ Hid (∀ i (hi : i < ss.length), F ≤ i → i ≤ L → cornerB 100 ss[i] T = true) ∧ wr.heap[G]? = some (.cells #[.int .i64 (F : Int), .int .i64 (L : Int), .int .i64 T] 39 (0, 0)) ∧ wr.heap[w.heap.size]? = some (.cells #[.int .i64 d, .int .i64 f, .slice (some ad) n c] 26 (0, 0)) ∧ wr.heap[w.heap.size + 1]? = some (.cells #[.int .i64 0, .int .i64 0, .int .i64 0] 39 (0, 0)) ∧ Below w.heap.size w wr ∧ G < wr.heap.size) (fun wr => n - (intOf ((wr.cell? ⟨G, 1, none⟩).getD (.int .i64 0))).toNat)
          case atStart => exact ⟨K, Nat.le_refl _, hkn', HAF.out, hkb, hka, hkr, hb, hGl⟩
          case round =>
            clear hkb hka hkr hb hGl
            obtain ⟨L, hL0, hL1, HAL, hkb, hka, hkr, hb, hGl⟩ := hrel
            obtain ⟨hx0, hx1, hx2, hxl⟩ := blk3 hkb
            obtain ⟨hy0, hy1, hy2, hyl⟩ := blk3 hka
            have hfb1 := (blk_cells hkb 1).2
            by_cases h1 : L + 1 < n
            · skip
              obtain ⟨L1, hLL⟩ : ∃ L1, L + 1 = L1 := ⟨_, rfl⟩
              obtain ⟨hj3, ad', e', hab', hcs, hsb⟩ := (hS.below (hb.mono hB)).at_ (k := L1) (by omega)
              injection e' with e'
              subst e'
              have hidx : ((L : Int) + 1).toNat = L1 := by omega
              have hq1 : (0 : Int) ≤ (L : Int) + 1 := by omega
              have hq2 : (L : Int) + 1 < (n : Int) := by omega
              have h1' : (L : Int) + 1 < (n : Int) := by omega
              cases hv : cornerB 100 ss[L1] T
              · have HV := Lib.hid hv
                have HHI : Hid (∀ i (hi : i < ss.length), i = L + 1 → cornerB 100 ss[i] T = false) := fun i hi e => by
                  have : i = L1 := by omega
                  subst this
                  exact hv
                clear hv
                obtain ⟨hz0, hz1, hz2, hzl⟩ := blk3 hkr
                have hf0 := (blk_cells hkr 0).2
                have hf1 := (blk_cells hkr 1).2
                have hf2 := (blk_cells hkr 2).2
                go_wp2_with (go_at_call 56; refine (i_CanRaise _ _ _ hsb).mono ?_; rw [HV.out]; rintro e w' ⟨rfl, m, rfl⟩)
                refine bodyPost_ret (v := .tuple #[.agg #[.int .i64 (F : Int), .int .i64 (L : Int), .int .i64 T], .bool true]) (by simp [results, Try.results15, go_sem, *]) rfl ?_
                exact ⟨.inr ⟨F, L, ⟨by omega, hL0, by rw [HL.out]; exact hL1, HAL.out, HLO.out, HHI.out⟩, rfl⟩, bel⟩
              · have HV := Lib.hid hv
                have HAL2 : Hid (∀ i (hi : i < ss.length), F ≤ i → i ≤ L + 1 → cornerB 100 ss[i] T = true) := fun i hi h9 h8 => by
                  by_cases q : i ≤ L
                  · exact HAL.out i hi h9 q
                  · have : i = L1 := by omega
                    subst this
                    exact hv
                clear hv
                go_wp2_with (go_at_call 56; refine (i_CanRaise _ _ _ hsb).mono ?_; rw [HV.out]; rintro e w' ⟨rfl, m, rfl⟩)
                go_roundw
                case rel =>
                  exact ⟨L + 1, by omega, h1, HAL2.out, by have hq9 := blk_set (show (wr.drewN m).heap[G]? = _ from hkb) 1 (.int .i64 ((L : Int) + 1)); simpa using hq9, (blk_other (show (wr.drewN m).heap[w.heap.size]? = _ from hka) (show ¬ w.heap.size = G by omega) _), (blk_other (show (wr.drewN m).heap[w.heap.size + 1]? = _ from hkr) (show ¬ w.heap.size + 1 = G by omega) _), bel, by simp [World.setCell]; exact hGl⟩
                case measure =>
                  have hn0 := (blk_cells (blk_set (show (wr.drewN m).heap[G]? = _ from hkb) 1 (.int .i64 ((L : Int) + 1))) 1).1
                  simp [hn0, hx1, intOf]
                  omega
            · have h1' : ¬ (L : Int) + 1 < (n : Int) := by omega
              have HHI : Hid (∀ i (hi : i < ss.length), i = L + 1 → cornerB 100 ss[i] T = false) := fun i hi e => by
                have := HL.out
                omega
              obtain ⟨hz0, hz1, hz2, hzl⟩ := blk3 hkr
              have hf0 := (blk_cells hkr 0).2
              have hf1 := (blk_cells hkr 1).2
              have hf2 := (blk_cells hkr 2).2
              go_wp2
              refine bodyPost_ret (v := .tuple #[.agg #[.int .i64 (F : Int), .int .i64 (L : Int), .int .i64 T], .bool true]) (by simp [results, Try.results15, go_sem, *]) rfl ?_
              exact ⟨.inr ⟨F, L, ⟨by omega, hL0, by rw [HL.out]; exact hL1, HAL.out, HLO.out, HHI.out⟩, rfl⟩, bel⟩
        · have HV := Lib.hid hv
          have HAF2 : Hid (∀ i (hi : i < ss.length), K1 ≤ i → i ≤ K → cornerB 100 ss[i] T = true) := fun i hi h9 h8 => by
            by_cases q : F ≤ i
            · exact HAF.out i hi q h8
            · have : i = K1 := by omega
              subst this
              exact hv
          clear hv
          go_wp2_with (go_at_call 56; refine (i_CanRaise _ _ _ hsb).mono ?_; rw [HV.out]; rintro e w' ⟨rfl, m, rfl⟩)
          go_roundw
          case rel =>
            have hFK : (F : Int) - 1 = (K1 : Int) := by omega
            exact ⟨K1, by omega, HAF2.out, by have hq9 := blk_set (show (wr.drewN m).heap[G]? = _ from hkb) 0 (.int .i64 ((F : Int) - 1)); rw [hFK] at hq9 ⊢; simpa using hq9, (blk_other (show (wr.drewN m).heap[w.heap.size]? = _ from hka) (show ¬ w.heap.size = G by omega) _), (blk_other (show (wr.drewN m).heap[w.heap.size + 1]? = _ from hkr) (show ¬ w.heap.size + 1 = G by omega) _), bel, by simp [World.setCell]; exact hGl⟩
          case measure =>
            have hn0 := (blk_cells (blk_set (show (wr.drewN m).heap[G]? = _ from hkb) 0 (.int .i64 ((F : Int) - 1))) 0).1
            simp [hn0, hx0, intOf]
            omega
      · have HLO : Hid (∀ i (hi : i < ss.length), i + 1 = F → cornerB 100 ss[i] T = false) := fun i hi e => by omega
        go_wp2
        obtain ⟨wo, hwo⟩ : ∃ wo : World, wo = wr := ⟨_, rfl⟩
        rw [← hwo]
        have hb : Below w.heap.size w wo := by rw [hwo]; first | exact hb | exact below_drewN hb _
        have hkb : wo.heap[G]? = some (.cells #[.int .i64 (F : Int), .int .i64 (K : Int), .int .i64 T] 39 (0, 0)) := by rw [hwo]; exact hkb
        have hka : wo.heap[w.heap.size]? = some (.cells #[.int .i64 d, .int .i64 f, .slice (some ad) n c] 26 (0, 0)) := by rw [hwo]; exact hka
        have hkr : wo.heap[w.heap.size + 1]? = some (.cells #[.int .i64 0, .int .i64 0, .int .i64 0] 39 (0, 0)) := by rw [hwo]; exact hkr
        have hGl : G < wo.heap.size := by rw [hwo]; exact hGl
        clear hwo hx0 hx1 hx2 hxl hy0 hy1 hy2 hyl hfb0
        go_loopw [] (fun wr => ∃ (L : Nat), K ≤ L ∧ L < n ∧ Hid (∀ i (hi : i < ss.length), F ≤ i → i ≤ L → cornerB 100 ss[i] T = true) ∧ wr.heap[G]? = some (.cells #[.int .i64 (F : Int), .int .i64 (L : Int), .int .i64 T] 39 (0, 0)) ∧ wr.heap[w.heap.size]? = some (.cells #[.int .i64 d, .int .i64 f, .slice (some ad) n c] 26 (0, 0)) ∧ wr.heap[w.heap.size + 1]? = some (.cells #[.int .i64 0, .int .i64 0, .int .i64 0] 39 (0, 0)) ∧ Below w.heap.size w wr ∧ G < wr.heap.size) (fun wr => n - (intOf ((wr.cell? ⟨G, 1, none⟩).getD (.int .i64 0))).toNat)
        case atStart => exact ⟨K, Nat.le_refl _, hkn', HAF.out, hkb, hka, hkr, hb, hGl⟩
        case round =>
          clear hkb hka hkr hb hGl
          obtain ⟨L, hL0, hL1, HAL, hkb, hka, hkr, hb, hGl⟩ := hrel
          obtain ⟨hx0, hx1, hx2, hxl⟩ := blk3 hkb
          obtain ⟨hy0, hy1, hy2, hyl⟩ := blk3 hka
          have hfb1 := (blk_cells hkb 1).2
          by_cases h1 : L + 1 < n
          · skip
            obtain ⟨L1, hLL⟩ : ∃ L1, L + 1 = L1 := ⟨_, rfl⟩
            obtain ⟨hj3, ad', e', hab', hcs, hsb⟩ := (hS.below (hb.mono hB)).at_ (k := L1) (by omega)
            injection e' with e'
            subst e'
            have hidx : ((L : Int) + 1).toNat = L1 := by omega
            have hq1 : (0 : Int) ≤ (L : Int) + 1 := by omega
            have hq2 : (L : Int) + 1 < (n : Int) := by omega
            have h1' : (L : Int) + 1 < (n : Int) := by omega
            cases hv : cornerB 100 ss[L1] T
            · have HV := Lib.hid hv
              have HHI : Hid (∀ i (hi : i < ss.length), i = L + 1 → cornerB 100 ss[i] T = false) := fun i hi e => by
                have : i = L1 := by omega
                subst this
                exact hv
              clear hv
              obtain ⟨hz0, hz1, hz2, hzl⟩ := blk3 hkr
              have hf0 := (blk_cells hkr 0).2
              have hf1 := (blk_cells hkr 1).2
              have hf2 := (blk_cells hkr 2).2
              go_wp2_with (go_at_call 56; refine (i_CanRaise _ _ _ hsb).mono ?_; rw [HV.out]; rintro e w' ⟨rfl, m, rfl⟩)
              refine bodyPost_ret (v := .tuple #[.agg #[.int .i64 (F : Int), .int .i64 (L : Int), .int .i64 T], .bool true]) (by simp [results, Try.results15, go_sem, *]) rfl ?_
              exact ⟨.inr ⟨F, L, ⟨by omega, hL0, by rw [HL.out]; exact hL1, HAL.out, HLO.out, HHI.out⟩, rfl⟩, bel⟩
            · have HV := Lib.hid hv
              have HAL2 : Hid (∀ i (hi : i < ss.length), F ≤ i → i ≤ L + 1 → cornerB 100 ss[i] T = true) := fun i hi h9 h8 => by
                by_cases q : i ≤ L
                · exact HAL.out i hi h9 q
                · have : i = L1 := by omega
                  subst this
                  exact hv
              clear hv
              go_wp2_with (go_at_call 56; refine (i_CanRaise _ _ _ hsb).mono ?_; rw [HV.out]; rintro e w' ⟨rfl, m, rfl⟩)
              go_roundw
              case rel =>
                exact ⟨L + 1, by omega, h1, HAL2.out, by have hq9 := blk_set (show (wr.drewN m).heap[G]? = _ from hkb) 1 (.int .i64 ((L : Int) + 1)); simpa using hq9, (blk_other (show (wr.drewN m).heap[w.heap.size]? = _ from hka) (show ¬ w.heap.size = G by omega) _), (blk_other (show (wr.drewN m).heap[w.heap.size + 1]? = _ from hkr) (show ¬ w.heap.size + 1 = G by omega) _), bel, by simp [World.setCell]; exact hGl⟩
              case measure =>
                have hn0 := (blk_cells (blk_set (show (wr.drewN m).heap[G]? = _ from hkb) 1 (.int .i64 ((L : Int) + 1))) 1).1
                simp [hn0, hx1, intOf]
                omega
          · have h1' : ¬ (L : Int) + 1 < (n : Int) := by omega
            have HHI : Hid (∀ i (hi : i < ss.length), i = L + 1 → cornerB 100 ss[i] T = false) := fun i hi e => by
              have := HL.out
              omega
            obtain ⟨hz0, hz1, hz2, hzl⟩ := blk3 hkr
            have hf0 := (blk_cells hkr 0).2
            have hf1 := (blk_cells hkr 1).2
            have hf2 := (blk_cells hkr 2).2
            go_wp2
            refine bodyPost_ret (v := .tuple #[.agg #[.int .i64 (F : Int), .int .i64 (L : Int), .int .i64 T], .bool true]) (by simp [results, Try.results15, go_sem, *]) rfl ?_
            exact ⟨.inr ⟨F, L, ⟨by omega, hL0, by rw [HL.out]; exact hL1, HAL.out, HLO.out, HHI.out⟩, rfl⟩, bel⟩
theorem info_boxN : (Try.prog.info? 39).map (fun i => (i.zero, i.size, i.bytes)) = some (some (.agg #[.int .i64 0, .int .i64 0, .int .i64 0]), 3, 24) := by kernel_rfl
theorem reads_new3 (W : World) (cs : Array Value) (t : TypeId) (n size : Nat) (h : cs.size = n * size) : Reads (W.alloc (.cells cs t)) (W.heap.size + 1) size (some ⟨W.heap.size, 0, none⟩) n cs.toList :=
  ⟨by simpa using h, fun _ => ⟨_, rfl, by simp, fun j u hj => World.news_of_block (blk_new W (.cells cs t)) j u hj⟩⟩
theorem volL_take_bd (ss : List ByteArray) (j : Nat) (h : ss.length ≤ 10) : volL (ss.take j) ≤ 1280 := by
  have h1 := (volL_bd (ss.take j)).2
  have h2 : (ss.take j).length ≤ ss.length := List.length_take_le' _ _
  omega
set_option maxHeartbeats 6400000 in
theorem i_BoxesFor (d f : Nat) (B : Nat) (A : Option Addr) (n c : Nat) (ss : List ByteArray) (w : World) (hS : Strs w B A n ss) (hB : B ≤ w.heap.size) (hc : cardOk (d : Int) (f : Int) ss = true) :
    Calls Try.prog 9 #[.agg #[.int .i64 d, .int .i64 f, .slice A n c]] w fun e w' => ∃ (L : List PBox) (N : Nat) (A2 : Option Addr) (c2 : Nat), L.length = N ∧ N ≤ 1280 ∧ Built d f ss (List.replicate n (flatT d f)) n L ∧ e = .returned (.tuple #[.slice A2 N c2, .bool true]) ∧ Boxes w' w'.heap.size A2 N L ∧ Below w.heap.size w w' := by
  obtain ⟨i0, hi0, hz0, hz1, hz2⟩ := info_parts info_boxN
  have hl := hS.len
  have hn := hS.nb
  have hcb := card_bounds hc
  obtain ⟨⟨hd1, hd8, hf1, hf8⟩, ⟨hl1, hl10⟩, hss⟩ := hcb
  have hn10 : n ≤ 10 := by omega
  have hD : Drew d f (flatT d f) := Drew.flat d f
  have hfs := drew_strip hD (by omega) (by omega) (by omega) (by omega)
  have hfr := flat_room d f (by omega) (by omega) (by omega) (by omega)
  have hfl : cardOk (d : Int) (f : Int) (List.replicate n (flatT d f)) = true := card_iff.2 ⟨⟨hd1, hd8, hf1, hf8⟩, by rw [List.length_replicate]; omega, fun s hs => by rw [List.eq_of_mem_replicate hs]; exact ⟨hfs, by rw [hD.1], by rw [hD.2.1]⟩⟩
  have kF := fun (W : World) => i_FlatStrip d f W (by omega) (by omega) (by omega) (by omega)
  have kW : ∀ (j : Nat) (hj : j < ss.length) (W : World), Calls Try.prog 48 #[.string (flatT d f), .string ss[j]] W fun e w' => ∃ l, Way (flatT d f) l ss[j] ∧ l.length ≤ 256 ∧ FreshInts W.heap.size l W e w' := fun j hj W => by
    obtain ⟨q1, q2, q3⟩ := strips_of hc (List.getElem_mem hj)
    have hfm : sameFrame ss[j].data.toList (flatT d f).data.toList = true := frame_iff.2 ⟨q1, hfs, by rw [hD.1]; omega, by rw [hD.2.1]; omega⟩
    have hz : (flatT d f).size ≤ 16777216 := by have := hD.2.2; omega
    exact i_WayUp _ _ W hz (by have := hss _ (List.getElem_mem hj); omega) hfm (flat_above hfm)
  have hstep : ∀ (j : Nat) (L : List PBox) (l : List Int) (hj : j < ss.length), Built d f ss (List.replicate n (flatT d f)) j L → Way (flatT d f) l ss[j] → Built d f ss (List.replicate n (flatT d f)) (j + 1) (L ++ l.map (pbox j)) := fun j L l hj h hw => h.step hc hfl (by rw [List.length_replicate]; exact hl.symm) hj (by rw [List.getElem_replicate]; exact hw) (by rw [List.getElem_replicate]; exact hfr)
  have hbd : ∀ (j : Nat) (L : List PBox), Built d f ss (List.replicate n (flatT d f)) j L → L.length ≤ 1280 := fun j L h => by
    have h1 := h.vol
    have h2 := volL_take_bd ss j hl10
    omega
  have HF := hide kF
  have HW := hide kW
  have HST := hide hstep
  have HBD := hide hbd
  have HL := Lib.hid hl
  have HC := Lib.hid hc
  clear kF kW hstep hbd hl hc hfs hfr hfl hss hD
  go_enter Try.func9, Try.ntmps9
  go_wp2_with fail
  have hk0 := blk_new w (.cells #[.int .i64 d, .int .i64 f, .slice A n c] 26)
  have hb0 : Below w.heap.size w (w.alloc (.cells #[.int .i64 d, .int .i64 f, .slice A n c] 26)) := bel
  have hs0 : (w.alloc (.cells #[.int .i64 d, .int .i64 f, .slice A n c] 26)).heap.size = w.heap.size + 1 := by simp
  generalize w.alloc (.cells #[.int .i64 d, .int .i64 f, .slice A n c] 26) = w0 at *
  refine (i_CardOk d f A n c ss w0 ((hS.below (hb0.mono hB)).more (by omega))).mono ?_
  rw [HC.out]
  rintro e w1 ⟨rfl, hb1⟩
  have hk1 := blk_next hk0 hb1
  have hbw1 : Below w.heap.size w w1 := hb0.trans (hb1.mono hb0.size)
  have hs1 := hb1.size
  clear hk0 hb0 hb1
  obtain ⟨hy0, hy1, hy2, hyl⟩ := blk3 hk1
  go_wp2
  clear hy0 hy1 hy2 hyl
  have h1 := made_at (e := 39) (size := 3) w1 w1.heap.size w1.heap.size rfl (Nat.le_refl _)
  have hk2 := blk_alloc hk1 (.cells #[] 39)
  have hbw2 : Below w.heap.size w (w1.alloc (.cells #[] 39)) := hbw1.trans ((Below.refl _ _).alloc (by omega) _)
  have hO2 : w1.heap.size < (w1.alloc (.cells #[] 39)).heap.size := by simp
  generalize w1.alloc (.cells #[] 39) = w2 at *
  obtain ⟨O, hO⟩ : ∃ x, w1.heap.size = x := ⟨_, rfl⟩
  rw [hO] at h1 hO2 ⊢
  have hOw : w.heap.size < O := by omega
  clear hO hk1 hbw1
  go_loopw [4, 16] (fun o i wr => ∃ (j N : Nat) (A' : Option Addr) (c' : Nat) (L : List PBox), j ≤ n ∧ i = .int .i64 (j : Int) ∧ o = .slice A' N c' ∧ N ≤ 1280 ∧ Hid (L.length = N) ∧ Hid (Built d f ss (List.replicate n (flatT d f)) j L) ∧ wr.ownsRow O 39 3 (.slice A' N c') N (L.flatMap boxCells) ∧ wr.heap[w.heap.size]? = some (.cells #[.int .i64 d, .int .i64 f, .slice A n c] 26 (0, 0)) ∧ Below w.heap.size w wr ∧ O < wr.heap.size) (fun _ i _ => n - (intOf i).toNat)
  case atStart => exact ⟨0, 0, _, _, [], Nat.zero_le _, rfl, rfl, Nat.zero_le _, rfl, Built.zero, h1, hk2, hbw2, hO2⟩
  case round =>
    obtain ⟨j, N, A', c', L, hj, rfl, rfl, hN, HN, HBT, hown, hk, hb, hOl⟩ := hrel
    clear h1 hk2 hbw2 hO2
    have hbs := hb.size
    by_cases hlt : j < n
    · obtain ⟨hj3, ad, rfl, hab, hcs, hsb⟩ := (hS.below (hb.mono hB)).at_ (k := j) hlt
      obtain ⟨hy0, hy1, hy2, hyl⟩ := blk3 hk
      go_wp2_with fail
      refine (HF.out _).mono ?_
      rintro e w3 ⟨rfl, hb3⟩
      clear hy0 hy1 hy2 hyl
      have hown3 := own_below hown hb3
      have hk3 := blk_next hk hb3
      have hbw3 := hb.trans (hb3.mono hbs)
      have hs3 := hb3.size
      clear hown hk hb hb3 hcs
      go_wp2_with fail
      refine (HW.out j hj3 _).mono ?_
      rintro e w4 ⟨l, hway, hl256, Aw, cw, rfl, how, hb4⟩
      have topC : ∀ k, (Value.slice Aw l.length cw).ownBlock = some k → k < w4.heap.size := fun k hk => (how.lt k hk).2
      have hne0 : ∀ k, (Value.slice A' N c').ownBlock = some k → k < w3.heap.size ∨ w4.heap.size ≤ k := fun k hk => .inl (hown3.lt k hk).2
      have hown4 := own_below hown3 hb4
      have hk4 := blk_next hk3 hb4
      have hbw4 := hbw3.trans (hb4.mono hbw3.size)
      have hs4 := hb4.size
      have HNEW := Lib.hid (HST.out j L l hj3 HBT.out hway)
      obtain ⟨R, hR⟩ : ∃ x, l.length = x := ⟨_, rfl⟩
      have HR := Lib.hid hR
      rw [hR] at how hl256 topC ⊢
      have HTOP := hide topC
      clear hown3 hk3 hbw3 hb4 hway hR topC
      go_wp2
      go_loopw [4, 29] (fun o i wr => ∃ (q M : Nat) (A' : Option Addr) (c' : Nat), q ≤ R ∧ i = .int .i64 (q : Int) ∧ o = .slice A' M c' ∧ (M ≤ N + q ∧ N + q ≤ M) ∧ wr.ownsRow O 39 3 (.slice A' M c') M ((L ++ (l.take q).map (pbox j)).flatMap boxCells) ∧ wr.heap[w.heap.size]? = some (.cells #[.int .i64 d, .int .i64 f, .slice (some ad) n c] 26 (0, 0)) ∧ Below w.heap.size w wr ∧ wr.ownsRow w3.heap.size 3 1 (.slice Aw R cw) R (ints l) ∧ (∀ k, (Value.slice A' M c').ownBlock = some k → k < w3.heap.size ∨ w4.heap.size ≤ k) ∧ w4.heap.size ≤ wr.heap.size) (fun _ i _ => R - (intOf i).toNat)
      case atStart => exact ⟨0, N, A', c', Nat.zero_le _, rfl, rfl, ⟨Nat.le_refl _, Nat.le_refl _⟩, by simpa using hown4, hk4, hbw4, how, hne0, Nat.le_refl _⟩
      case round =>
        clear hown4 hk4 hbw4 how hne0
        obtain ⟨q, M, A', c', hq, rfl, rfl, ⟨hM1, hM2⟩, hown, hk, hb, hCr, hne, hzz⟩ := hrel
        have hbs := hb.size
        have hRr := Reads.of_own hCr
        have HNE := hide hne
        clear hne
        by_cases hlt : q < R
        · obtain ⟨hq1, adw, rfl, habw, hcl⟩ := ints_at hRr hlt
          obtain ⟨x, hx⟩ : ∃ x, l[q] = x := ⟨_, rfl⟩
          have HTK : Hid ((L ++ (l.take q).map (pbox j)).flatMap boxCells ++ [Value.int .i64 (j : Int), .int .i64 (j : Int), .int .i64 x] = (L ++ (l.take (q + 1)).map (pbox j)).flatMap boxCells) := by
            unfold Hid
            rw [List.take_succ_eq_append_getElem hq1, hx, List.map_append, ← List.append_assoc, List.flatMap_append (xs := L ++ _)]
            simp [boxCells, pbox]
          rw [hx] at hcl
          have hone : ∀ u ∈ [Value.int .i64 (j : Int), .int .i64 (j : Int), .int .i64 x], u.oneCell' = true := by intro u hu; simp at hu; rcases hu with rfl | rfl <;> rfl
          have HONE := hide hone
          clear hone hx hRr
          go_wp2_with (at_builtin; refine wpList_append_K rfl (.tmp 33) (.tmp 38) _ rfl O 39 i0 _ 3 24 Try.underlying28 hi0 hz0 hz1 hz2 rfl (by omega) (.slice A' M c') M ((L ++ (l.take q).map (pbox j)).flatMap boxCells) rfl (hown.alloc _) (wr.heap.size + 1) (some ⟨wr.heap.size, 0, none⟩) 1 1 [Value.int .i64 (j : Int), .int .i64 (j : Int), .int .i64 x] rfl (reads_new3 _ _ _ 1 3 rfl) HONE.out ?_ ?_ ?_ (M + 1) _ rfl HTK.out ?_; (unfold maxLen; omega); omega; (simp; omega); intro A2 c2 w5 ho5 hb5 hg5 hn5; have hC5 := own_apart (hCr.alloc _) hg5 HNE.out HTOP.out; have hzw5 := hg5.size; (simp at hzw5))
          go_roundw
          case rel =>
            refine ⟨q + 1, M + 1, A2, c2, by omega, by go_num, rfl, ⟨by omega, by omega⟩, ho5, ?_, ?_, hC5, fun k hk9 => ?_, by omega⟩
            · exact blk_below (blk_alloc hk _) hb5 (by omega)
            · exact (hb.alloc hbs _).trans (hb5.mono (by omega))
            · rcases hn5 with h | h
              · exact HNE.out k (h ▸ hk9)
              · rw [h] at hk9
                injection hk9 with hk9
                simp at hk9
                exact .inr (by omega)
          case measure => simp [intOf]; omega
        · have hqR : q = R := by omega
          subst hqR
          have ht : l.take q = l := List.take_of_length_le (by rw [HR.out]; exact Nat.le_refl _)
          rw [ht] at hown
          have hML : Hid ((L ++ l.map (pbox j)).length = M) := by unfold Hid; rw [List.length_append, List.length_map, HN.out, HR.out]; omega
          have hM12 := HBD.out _ _ HNEW.out
          rw [hML.out] at hM12
          clear ht hRr
          go_wp2
          go_roundw
          case rel => exact ⟨j + 1, M, A', c', _, by omega, by go_num, rfl, hM12, hML.out, HNEW.out, hown, hk, hb, by omega⟩
          case measure => simp [intOf]; omega
    · have hjn : j = n := by omega
      subst hjn
      have hbx : Boxes wr wr.heap.size A' N L := ⟨by rw [← HN.out] at hown ⊢; exact Reads.of_own hown, by omega⟩
      have HO := hide hbx
      clear hown hbx
      go_wp2
      refine bodyPost_ret (v := .tuple #[.slice A' N c', .bool true]) (by simp [results, Try.results9, go_sem, *]) rfl ?_
      exact ⟨L, N, A', c', HN.out, hN, HBT.out, rfl, HO.out, hb⟩
end Go.Proofs.Ytccjedongkokoaa
namespace Go.Proofs.Ytccjedongkokoaa
open Go.ChangeShapes Go.WideShapes Go.ChangeAt Go.RowKit
set_option linter.unusedVariables false
set_option linter.unusedSimpArgs false
set_option maxRecDepth 10000
set_option maxHeartbeats 800000 in
theorem s_FlatT (d f : Nat) (w : World) (h1 : 1 ≤ d) (h2 : d ≤ 8) (h3 : 1 ≤ f) (h4 : f ≤ 8) :
    Calls Try.prog 50 #[.int .i64 d, .int .i64 f] w fun e w' => e = .returned (.string (flatT d f)) ∧ w' = w := by
  have hsz : ¬ 9223372036854775807 < (⟨(List.replicate d 100).toArray⟩ : ByteArray).size + (⟨(List.replicate f 102).toArray⟩ : ByteArray).size := by
    show ¬ _ < (List.replicate d (100 : UInt8)).toArray.size + (List.replicate f (102 : UInt8)).toArray.size; simp; omega
  have hfl : flatT d f = ⟨Array.replicate d 100⟩ ++ ⟨Array.replicate f 102⟩ := by unfold flatT; simp
  have hs1 : isStepsB (d : Int) = true := by simp [isStepsB, inB]; omega
  have hs2 : isStepsB (f : Int) = true := by simp [isStepsB, inB]; omega
  have HFL := hide hfl
  clear hfl
  go_enter Try.func50, Try.ntmps50
  go_wp2_with (first | (go_at_call 94; refine (s_l02Frame _ _ _).mono ?_; rintro e w' ⟨rfl, rfl⟩) | (go_at_call_of 95 (Value.string ⟨#[100]⟩); refine (s_l02Many 100 d _ h2).mono ?_; rintro e w' ⟨rfl, rfl⟩) | (go_at_call_of 95 (Value.string ⟨#[102]⟩); refine (s_l02Many 102 f _ h4).mono ?_; rintro e w' ⟨rfl, rfl⟩))
  go_ret
  first | exact ⟨rfl, rfl⟩ | exact ⟨ret_str (unhide HFL).symm, rfl⟩
set_option maxHeartbeats 3200000 in
theorem s_PlainCard (d f n : Nat) (w : World) (h1 : 1 ≤ d) (h2 : d ≤ 8) (h3 : 1 ≤ f) (h4 : f ≤ 8) (hn1 : 1 ≤ n) (hn2 : n ≤ 10) :
    Calls Try.prog 10 #[.int .i64 d, .int .i64 f, .int .i64 n] w (FreshCardB w.heap.size d f (List.replicate n (flatT d f)) true w) := by
  obtain ⟨i0, hi0, hi1, hi2, hi3⟩ := info_parts info_str
  have hcok : cardOk d f (List.replicate n (flatT d f)) = true := by
    have hs : stripOf d f (flatT d f) = true := by
      have hD : Drew d f (flatT d f) := Drew.flat d f
      have hst := drew_strip hD h1 h2 h3 h4
      obtain ⟨k1, k2, k3⟩ := hD
      unfold stripOf downOf forwardOf
      rw [hst, k1, k2]
      simp
    have hall : (List.replicate n (flatT d f)).all (stripOf d f) = true := List.all_eq_true.2 fun x hx => by rw [List.eq_of_mem_replicate hx]; exact hs
    unfold cardOk
    rw [hall]
    simp [isStepsB, inB]
    omega
  go_enter Try.func10, Try.ntmps10
  go_wp2
  have HF := hide (fun (W : World) => (s_FlatT d f W h1 h2 h3 h4).mono (fun e w' h => (⟨h.1, by rw [h.2]; exact Below.refl _ _⟩ : e = .returned (.string (flatT d f)) ∧ Below W.heap.size W w')))
  have HC := Lib.hid hcok
  have hfsz : (flatT d f).size ≤ 16 := by have := (Drew.flat d f).2.2; show (⟨(List.replicate d 100).toArray⟩ ++ ⟨(List.replicate f 102).toArray⟩ : ByteArray).size ≤ 16; omega
  generalize flatT d f = T at *
  clear hcok
  have hkr0 := blk_alloc (blk_new w (.cells #[.int .i64 0, .int .i64 0, .slice none 0 0] 26)) (.cells #[.int .i64 d, .int .i64 f, .slice none 0 0] 26)
  have hko0 := blk_new_at (w.alloc (.cells #[.int .i64 0, .int .i64 0, .slice none 0 0] 26)) (.cells #[.int .i64 d, .int .i64 f, .slice none 0 0] 26) (k := w.heap.size + 1) (by simp)
  have hb0 : Below w.heap.size w ((w.alloc (.cells #[.int .i64 0, .int .i64 0, .slice none 0 0] 26)).alloc (.cells #[.int .i64 d, .int .i64 f, .slice none 0 0] 26)) := bel
  have hO0 : w.heap.size + 1 < ((w.alloc (.cells #[.int .i64 0, .int .i64 0, .slice none 0 0] 26)).alloc (.cells #[.int .i64 d, .int .i64 f, .slice none 0 0] 26)).heap.size := by simp
  generalize ((w.alloc (.cells #[.int .i64 0, .int .i64 0, .slice none 0 0] 26)).alloc (.cells #[.int .i64 d, .int .i64 f, .slice none 0 0] 26)) = w2 at *
  obtain ⟨O, hO⟩ : ∃ O, w.heap.size + 1 = O := ⟨_, rfl⟩
  rw [hO] at hko0 hO0 ⊢
  have hwO : w.heap.size < O := by omega
  clear hO
  have hone : ∀ u ∈ [Value.string T], u.oneCell' = true := by intro u hu; simp at hu; subst hu; rfl
  go_loopw [9] (fun i wr => ∃ (j : Nat) (A' : Option Addr) (c' : Nat), j ≤ n ∧ i = .int .i64 j ∧ wr.heap[O]? = some (.cells #[.int .i64 d, .int .i64 f, .slice A' j c'] 26 (0, 0)) ∧ wr.heap[w.heap.size]? = some (.cells #[.int .i64 0, .int .i64 0, .slice none 0 0] 26 (0, 0)) ∧ wr.ownsRow (O + 1) 9 1 (.slice A' j c') j ((List.replicate j T).map Value.string) ∧ Below w.heap.size w wr ∧ O < wr.heap.size) (fun i _ => n - (intOf i).toNat)
  case atStart => exact ⟨0, none, 0, Nat.zero_le _, rfl, hko0, hkr0, World.ownsRow_nil _ _ _ _, hb0, hO0⟩
  case round =>
    obtain ⟨j, A', c', hj, rfl, hko, hkr, hown, hb, hOr⟩ := hrel
    have hzr := hb.size
    obtain ⟨hx0, hx1, hx2, hxl⟩ := blk3 hko
    have hf2 := (blk_cells hko 2).2
    by_cases hlt : j < n
    · have HST : Hid ((List.replicate j T).map Value.string ++ [Value.string T] = (List.replicate (j + 1) T).map Value.string) := by unfold Hid; rw [List.replicate_succ', List.map_append]; rfl
      go_wp2
      go_region_law (first | (go_simp; go_at_call 50; refine (HF.out _).mono ?_; rintro e w9 ⟨rfl, hb9⟩; have hown9 : w9.ownsRow (O + 1) 9 1 (.slice A' j c') j ((List.replicate j T).map Value.string) := (by first | exact own_below hown hb9 | exact own_below hown.drew hb9 | exact own_below (own_drewN hown _) hb9); have hs9 := hb9.size; (try simp at hs9); have hko9 : w9.heap[O]? = some (.cells #[.int .i64 d, .int .i64 f, .slice A' j c'] 26 (0, 0)) := (by first | exact blk_next hko hb9 | exact blk_next (blk_drew hko) hb9); have hkr9 : w9.heap[w.heap.size]? = some (.cells #[.int .i64 0, .int .i64 0, .slice none 0 0] 26 (0, 0)) := (by first | exact blk_next hkr hb9 | exact blk_next (blk_drew hkr) hb9); have hO9 : O < w9.heap.size := blk_lt hko9; have hbw9 : Below w.heap.size w w9 := (by first | exact hb.trans (hb9.mono hzr) | exact hb.drew.trans (hb9.mono hzr)); have hcw9 := (blk_cells hko9 2).1; have hfw9 := (blk_cells hko9 2).2) | (refine step_append_sl _ rfl (.tmp 23) (.tmp 27) _ rfl (O + 1) 9 i0 _ 1 16 Try.underlying24 hi0 hi1 hi2 hi3 rfl (by omega) (.slice A' j c') j ((List.replicate j T).map Value.string) rfl ?_ (w9.heap.size + 1) (some ⟨w9.heap.size, 0, none⟩) 1 1 [Value.string T] rfl ?_ hone ?_ ?_ ?_ ?_; (focus ((repeat (first | (with_reducible exact hown9) | (with_reducible refine World.ownsRow.drew ?_) | (with_reducible refine World.ownsRow.alloc ?_ _))); (first | done | fail))); (first | exact (reads_one _ _).drew | exact (reads_one _ _)); (unfold maxLen; omega); omega; (simp; omega); intro A3 c3 w3 ho3 hb3; have hko3 : w3.heap[O]? = some (.cells #[.int .i64 d, .int .i64 f, .slice A' j c'] 26 (0, 0)) := blk_below (by first | exact blk_alloc hko9 _ | exact blk_drew (blk_alloc hko9 _)) hb3 (by omega); have hco3 := (blk_cells hko3 2).1; have hfo3 := (blk_cells hko3 2).2; have hbw3 : Below w.heap.size w w3 := (by first | exact (hbw9.alloc hbw9.size _).trans (hb3.mono (by omega)) | exact (hbw9.alloc hbw9.size _).drew.trans (hb3.mono (by omega))); have hkr3 : w3.heap[w.heap.size]? = some (.cells #[.int .i64 0, .int .i64 0, .slice none 0 0] 26 (0, 0)) := blk_below (by first | exact blk_alloc hkr9 _ | exact blk_drew (blk_alloc hkr9 _)) hb3 (by omega)))
      all_goals
        go_wp2
        go_roundw
        case rel =>
          rw [HST.out] at ho3
          exact ⟨j + 1, A3, c3, by omega, by go_num, by simpa using blk_set hko3 2 (.slice A3 (j + 1) c3), blk_other hkr3 (show ¬ w.heap.size = O by omega) _, ownsRow_setCell_below ho3 (by simp) _, hbw3.setCell (show w.heap.size ≤ O by omega) _, by have := blk_lt hko3; simp [World.setCell]; omega⟩
        case measure => simp [intOf]; omega
    · have hjn : j = n := by omega
      subst hjn
      have hS : Strs wr wr.heap.size A' j (List.replicate j T) := strs_of_own hown (by omega) (fun x hx => by rw [List.eq_of_mem_replicate hx]; omega)
      have HO := hide hown
      clear hlt hown
      go_wp2_with fail
      refine (s_CardOk d f A' j c' (List.replicate j T) wr hS).mono ?_
      rw [HC.out]
      rintro e w3 ⟨rfl, hb3⟩
      clear hx0 hx1 hx2 hxl hf2
      have hko3 := blk_next hko hb3
      have hkr3 := blk_next hkr hb3
      have ho3 := own_below HO.out hb3
      have hbw3 : Below w.heap.size w w3 := hb.trans (hb3.mono hzr)
      have HO3 := hide ho3
      clear ho3
      obtain ⟨hx0, hx1, hx2, hxl⟩ := blk3 hko3
      obtain ⟨hy0, hy1, hy2, hyl⟩ := blk3 hkr3
      have hf0 := (blk_cells hkr3 0).2
      have hf1 := (blk_cells hkr3 1).2
      have hf2 := (blk_cells hkr3 2).2
      go_wp2
      refine bodyPost_ret (v := .tuple #[.agg #[.int .i64 d, .int .i64 f, .slice A' j c'], .bool true]) (by simp [results, Try.results10, go_sem, *]) rfl ?_
      refine ⟨A', c', by rw [List.length_replicate], ?_, ?_⟩
      · rw [List.length_replicate]
        exact own_base (own3_set HO3.out hkr3 (by decide) _ _ _) (by omega)
      · exact hbw3.trans (by repeat (first | (with_reducible exact Below.refl _ _) | (refine Below.setCell ?_ (show w.heap.size ≤ w.heap.size from Nat.le_refl w.heap.size) _)))
end Go.Proofs.Ytccjedongkokoaa
