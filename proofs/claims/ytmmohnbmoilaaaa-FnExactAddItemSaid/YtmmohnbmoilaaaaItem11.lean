/- The contract of the reference's DropItem. -/
import Derived.Test.YtmmohnbmoilaaaaItem10
import Derived.Test.YtmmohnbmoilaaaaItem3
import Derived.Test.YtmmohnbmoilaaaaLawKit2
import Derived.Test.YtmmohnbmoilaaaaFrame
import Derived.Deep.RegionHeld3
import Derived.Deep.DeepCutAuto
namespace Go.Proofs.Ytmmohnbmoilaaaa
open Go.ChangeShapes Go.WideShapes Go.ChangeAt Go.RowKit
set_option linter.unusedVariables false
set_option maxRecDepth 10000

/-- a row of items put behind another one -/
theorem OwnItems.join {w w' : World} {lo mid n c m c2 N c' : Nat} {A A2 A' : Option Addr} {L M : List RItem} (ho : OwnItems w lo mid A n c L) (ho2 : OwnItems w mid w.heap.size A2 m c2 M) (hle : lo ≤ mid) (hm : mid ≤ w.heap.size)
    (hg : w.grownBy w' (Value.slice A n c).ownBlock) (h2 : w'.ownsRow lo 60 4 (.slice A' N c') N (L.flatMap itemCells ++ M.flatMap itemCells)) : OwnItems w' lo w'.heap.size A' N c' (L ++ M) := by
  have key : ∀ s : RItem, OwnS w lo w.heap.size s.A s.c s.x.ss → OwnS w' lo w'.heap.size s.A s.c s.x.ss := fun s hs =>
    ⟨own_grown hs.row hg (fun k hk => by
      intro he
      exact own_ne_type hs.row ho.row (by decide) k hk he), fun k hk => by have h1 := hs.top k hk; have h2 := hg.size; omega⟩
  refine ⟨by rw [List.flatMap_append]; exact h2, fun k hk => (h2.lt k hk).2, fun s hs => ?_, ?_⟩
  · rcases List.mem_append.1 hs with h | h
    · exact key s ((ho.in_ s h).wide (Nat.le_refl _) hm)
    · exact key s ((ho2.in_ s h).wide hle (Nat.le_refl _))
  · rw [List.pairwise_append]
    refine ⟨ho.apart, ho2.apart, fun a ha b hb k hk hk2 => ?_⟩
    have h1 := (ho.in_ a ha).top k hk
    have h3 := ((ho2.in_ b hb).row.lt k hk2).1
    omega
section
variable {P : Program} (w : World)
theorem step_append_G {ops : Array Oper} {o : Oper} {a : Act} {K : Act → World → Prop} {Q : Exit → Act → World → Prop} {E : Prop} (hgd : o.guard = none) (s x : Operand) (t : TypeId)
    (ho : o.op = .call { callee := .builtin .append, args := #[s, x], argTypes := #[t, t] })
    (base : Nat) (e : TypeId) (i : TypeInfo) (z : Value) (size bytes : Nat) (ht : P.underlying t = some (.slice e)) (hi : P.info? e = some i) (hz : i.zero = some z)
    (hsize : i.size = size) (hby : i.bytes = bytes) (hzs : z.cells.size = size) (hsz : 0 < size)
    (v : Value) (n : Nat) (xs : List Value) (hs : a.eval s = v) (hown : w.ownsRow base e size v n xs)
    (B : Nat) (A : Option Addr) (m c : Nat) (news : List Value) (hx : a.eval x = .slice A m c) (hr : Reads w B size A m news) (h1 : ∀ u ∈ news, u.oneCell' = true)
    (h63 : n + m ≤ maxLen) (hbytes : (n + m) * bytes ≤ 140737488355328) (hbase : base ≤ w.heap.size)
    (N : Nat) (ys : List Value) (hN : n + m = N) (hys : xs ++ news = ys)
    (h : ∀ A' c' w', w'.ownsRow base e size (.slice A' N c') N ys → w.grownBy w' v.ownBlock → (∀ k, (Value.slice A' N c').ownBlock = some k → v.ownBlock = some k ∨ k = w.heap.size) → K (a.put o.dst (.slice A' N c')) w') :
    if Region.wanted o (yielded ops a.tmps) = true then Oper.wp P o a w K Q else E := by
  refine step_append_any w hgd s x t ho base e i z size bytes ht hi hz hsize hby hzs hsz v n xs hs hown B A m c news hx hr h1 h63 hbytes hbase ?_
  subst hN; subst hys
  intro v' w' h2 hg hv
  obtain ⟨A', c', rfl⟩ := own_slice h2
  refine h A' c' w' h2 hg fun k hk => ?_
  rcases hv with hv | hv
  · exact .inl (hv.symm.trans hk)
  · rw [hk] at hv; injection hv with hv; exact .inr hv
end
theorem s_l35CopyN (B : Nat) (A : Option Addr) (n c : Nat) (L : List RItem) (w : World) (hS : Items w B A n L) (hB : B ≤ w.heap.size) :
    Calls Try.prog 102 #[.slice A n c] w fun e w' => ∃ A' c' L', e = .returned (.slice A' n c') ∧ plI L' = plI L ∧ OwnItems w' w.heap.size w'.heap.size A' n c' L' ∧ Below w.heap.size w w' := by
  have hl : (plI L).length = n := by rw [plI_len, hS.len]
  refine (u_l35Copy (plI L) B A n c L w rfl hS hB).mono ?_
  rintro e w' ⟨A', c', L', h1, h2, h3, h4⟩
  rw [hl] at h1 h3
  exact ⟨A', c', L', h1, h2, h3, h4⟩
theorem dropped_zero {P : List PItem} {name : ByteArray} (h : noNm P name P.length) : dropped P name = (P, false) := dropped_no2 (idxNm_none h)
set_option maxHeartbeats 6400000 in
theorem s_DropItem (name : ByteArray) (P : List PItem) (B : Nat) (A : Option Addr) (n c : Nat) (L : List RItem) (w : World) (hp : plI L = P) (hS : Items w B A n L) (hB : B ≤ w.heap.size) (hnc : n ≤ c) (hc63 : c ≤ 9223372036854775807) :
    Calls Try.prog 37 #[.slice A n c, .string name] w (UItemsB (dropped P name).1 (dropped P name).2 w) := by
  have hn := hS.nb
  have hl : P.length = n := by rw [← hp, plI_len, hS.len]
  have hco := fun (W : World) (hW : Below w.heap.size w W) => s_CatalogOk P B A n c L W hp (hS.below (hW.mono hB)) (Nat.le_trans hB hW.size)
  have hcp := fun (W : World) (hW : Below w.heap.size w W) => u_l35Copy P B A n c L W hp (hS.below (hW.mono hB)) (Nat.le_trans hB hW.size)
  have HCO := hide hco
  have HCP := hide hcp
  have HL := Lib.hid hl
  have HP := Lib.hid hp
  obtain ⟨i0, hii, hz0, hz1, hz2⟩ := info_parts info_itemCells
  clear hl hp hco hcp
  go_enter Try.func37, Try.ntmps37
  go_wp2
  go_loopw [6] (fun i wr => ∃ j : Nat, j ≤ n ∧ i = .int .i64 j ∧ Hid (noNm P name j) ∧ Below w.heap.size w wr) (fun i _ => n - (intOf i).toNat)
  case atStart => exact ⟨0, Nat.zero_le _, rfl, noNm_zero _ _, Below.refl _ _⟩
  case round =>
    obtain ⟨j, hj, rfl, HN, hbw⟩ := hrel
    have hzr := hbw.size
    by_cases hlt : j < n
    · obtain ⟨hk1, ad, rfl, hab, hc0, hc1, hc2, hc3, hss, hnm⟩ := (hS.below (hbw.mono hB)).at_ hlt
      have HX := Lib.hid (show P[j]? = some L[j].x by rw [← HP.out]; exact plI_at hk1)
      have hq1 : (ad.add (j * 4)).block < wr.heap.size := by rw [block_of_add]; omega
      cases hck : catOk P
      · have HR := Lib.hid (dropped_no1 (name := name) hck)
        have hco := unhide HCO wr hbw
        rw [hck] at hco
        have HC := hide hco
        clear hco hck
        go_wp2_with (first | (go_at_call 101; refine (unhide HC).mono ?_; rintro e w1 ⟨rfl, hb1⟩; obtain ⟨hcb1, hfb1⟩ := bcell hb1; (have hbw1 : Below w.heap.size w w1 := hbw.trans (hb1.mono (by omega)))) | (go_at_call 102; refine (unhide HCP _ hbw1).mono ?_; rintro e w3 ⟨A3, c3, L3, rfl, hp3, ho3, hb3⟩; obtain ⟨hcb3, hfb3⟩ := bcell hb3; (have hbw3 : Below w.heap.size w w3 := hbw1.trans (hb3.mono hbw1.size))))
        refine bodyPost_ret (v := .tuple #[.slice A3 P.length c3, .bool false]) (by simp [results, Try.results37, go_sem, *]) rfl ?_
        exact uitemsB_cast HR.out ⟨A3, c3, L3, rfl, hp3, ho3.wide hbw1.size (Nat.le_refl _), hbw3⟩
      · by_cases hq : L[j].x.nm = name
        · have HR := Lib.hid (dropped_yes hck (idxNm_some HN.out HX.out hq))
          have hbq := beq_toList_true hq
          have hco := unhide HCO wr hbw
          rw [hck] at hco
          have HC := hide hco
          have HLN : Hid (j + (n - (j + 1)) = n - 1) := by unfold Hid; omega
          have HQL : Hid ((P.take j ++ P.drop (j + 1)).length = n - 1) := by unfold Hid; have := HL.out; rw [List.length_append, List.length_take, List.length_drop]; omega
          have hi0 : (0 : Int) ≤ (j : Int) := Int.natCast_nonneg _
          have hi1 : (j : Int) ≤ (c : Int) := by omega
          have hi4 : (n : Int) ≤ (c : Int) := by omega
          have hi5 : (j : Int) ≤ (n : Int) := by omega
          have hw1 : IntKind.i64.wrap ((j : Int) + 1) = (j : Int) + 1 := by rw [IntKind.wrap_i64]; omega
          have hi6 : (0 : Int) ≤ (j : Int) + 1 := by omega
          have hi7 : (j : Int) + 1 ≤ (c : Int) := by omega
          have hi8 : (j : Int) + 1 ≤ (n : Int) := by omega
          have htn : ((j : Int) + 1).toNat = j + 1 := by omega
          have tok1 : True := trivial
          clear hco hck hq
          by_cases hcJ : c = j + 1
          · have hcut0 : ∀ W : World, Items W B (some ad) n L → Items W B (some ad) (n - (j + 1)) (L.drop (j + 1)) := by
              intro W h
              have := h.drop (k := j + 1) (cap := c) (by omega) hnc
              rwa [if_pos hcJ] at this
            have hcT : (c = j + 1) = True := eq_true hcJ
            clear hcJ
            go_wp2_with (first | (go_at_call 101; refine (unhide HC).mono ?_; rintro e w1 ⟨rfl, hb1⟩; obtain ⟨hcb1, hfb1⟩ := bcell hb1; (have hbw1 : Below w.heap.size w w1 := hbw.trans (hb1.mono (by omega))); (have hcc1 : ∀ q : Addr, q.block < wr.heap.size → w1.cell? q = wr.cell? q := fun q hq => hb1.cell hq); (have hz9 := hbw1.size); (have hS1 := hS.below (hbw1.mono hB))))
            go_region_held3 (fun W => (∀ b o, b < w1.heap.size → W.cell? ⟨b, o, none⟩ = (w1).cell? ⟨b, o, none⟩) ∧ (∀ b o, b < w1.heap.size → W.frozen? ⟨b, o, none⟩ = (w1).frozen? ⟨b, o, none⟩) ∧ Below (w1.heap.size) (w1) W) (exact keep_of (by repeat (first | (with_reducible exact Below.refl _ _) | (with_reducible assumption) | (with_reducible exact (‹_ ∧ _ ∧ Below _ _ _›).2.2) | (with_reducible refine below_drewN ?_ _) | (with_reducible refine Below.drew ?_) | ((with_reducible refine Below.alloc ?_ ?hsd _); (case hsd => (first | exact Nat.le_refl _ | (simp; done) | omega | (simp; omega) | exact (‹_ ∧ _ ∧ Below _ _ _›).2.2.size))) | ((with_reducible refine Below.setCell ?_ ?hsd _); (case hsd => (first | exact Nat.le_refl _ | (simp; done) | omega | (simp; omega) | exact (‹_ ∧ _ ∧ Below _ _ _›).2.2.size))) | ((with_reducible refine Below.trans ?_ (Below.mono (by with_reducible assumption) ?hsd)); (case hsd => (first | exact Nat.le_refl _ | (simp; done) | omega | (simp; omega) | exact (‹_ ∧ _ ∧ Below _ _ _›).2.2.size))) | exact Below.refl _ _ | assumption | exact (‹_ ∧ _ ∧ Below _ _ _›).2.2 | refine below_drewN ?_ _ | refine Below.drew ?_ | refine Below.alloc ?_ (by first | exact Nat.le_refl _ | (simp; done) | omega | (simp; omega) | exact (‹_ ∧ _ ∧ Below _ _ _›).2.2.size) _ | refine Below.setCell ?_ (by first | exact Nat.le_refl _ | (simp; done) | omega | (simp; omega) | exact (‹_ ∧ _ ∧ Below _ _ _›).2.2.size) _ | refine Below.trans ?_ (Below.mono (by assumption) (by first | exact Nat.le_refl _ | (simp; done) | omega | (simp; omega) | exact (‹_ ∧ _ ∧ Below _ _ _›).2.2.size))))) (first | (go_at_call 102; have _t := tok1; have hq := (‹_ ∧ _ ∧ Below _ _ _›).2.2; refine (s_l35CopyN B _ j c (L.take j) _ ?_ ?_).mono ?_; exact (hS1.below (hq.mono (by omega))).take (by omega); exact Nat.le_trans (by omega) hq.size; rintro e w2 ⟨A2, c2, L2, rfl, hp2, ho2, hb2⟩; clear _t tok1; have hqs2 := hq.size; have hbs2 := hb2.size; (try simp at hqs2); (try simp at hbs2); (have ho2 := ho2.wide (lo' := w1.heap.size) (hi' := w2.heap.size) (by first | exact hq.size | exact Nat.le_refl _) (Nat.le_refl _)); replace hp2 := Lib.hid hp2) | (go_at_call 102; have hq := (‹_ ∧ _ ∧ Below _ _ _›).2.2; refine (s_l35CopyN B _ (n - (j + 1)) (c - (j + 1)) (L.drop (j + 1)) _ ?_ ?_).mono ?_; exact hcut0 _ (hS1.below (hq.mono (by omega))); exact Nat.le_trans (by omega) hq.size; rintro e w3 ⟨A3, c3, L3, rfl, hp3, ho3, hb3⟩; have hqs3 := hq.size; have hbs3 := hb3.size; (try simp at hqs3); (try simp at hbs3); (have ho3 := ho3.wide (lo' := w2.heap.size) (hi' := w3.heap.size) (by first | exact Nat.le_refl _ | (simp; done)) (Nat.le_refl _)); (have ho23 : OwnItems w3 w1.heap.size w2.heap.size A2 j c2 L2 := (by first | exact ho2.below hb3 | exact ho2.drew.below hb3)); replace hp3 := Lib.hid hp3) | (refine step_append_G _ rfl (.tmp 27) (.tmp 32) 55 rfl w1.heap.size 60 i0 _ 4 56 Try.underlying55 hii hz0 hz1 hz2 rfl (by omega) (.slice A2 j c2) j (L2.flatMap itemCells) rfl ?_ w3.heap.size A3 (n - (j + 1)) c3 (L3.flatMap itemCells) rfl ?_ (itemCells_one L3) ?_ ?_ ?_ (n - 1) (L2.flatMap itemCells ++ L3.flatMap itemCells) HLN.out rfl ?_; (first | exact ho23.row | exact ho23.drew.row); (first | exact Reads.of_own ho3.row | exact Reads.of_own ho3.drew.row); (unfold maxLen; omega); omega; (have hq := (‹_ ∧ _ ∧ Below _ _ _›).2.2; first | exact hq.size | omega); intro A4 c4 W4 ho4 hg4 hq4; (have hj4 : OwnItems W4 w1.heap.size W4.heap.size A4 (n - 1) c4 (L2 ++ L3) := (by first | exact ho23.join ho3 (by omega) (by omega) hg4 ho4 | exact ho23.drew.join ho3.drew (by omega) (by show w2.heap.size ≤ w3.heap.size; omega) hg4 ho4)); (have hq := (‹_ ∧ _ ∧ Below _ _ _›).2.2; have hb14 := hq.trans (grown_below (B := w1.heap.size) hg4 (fun k hk => (ho23.row.lt k hk).1) hq.size))))
            all_goals (
              go_wp2
              refine bodyPost_ret (v := .tuple #[.slice A4 (n - 1) c4, .bool true]) (by simp [results, Try.results37, go_sem, *]) rfl ?_
              refine uitemsB_cast HR.out ⟨A4, c4, L2 ++ L3, by rw [HQL.out], ?_, ?_, ?_⟩
              · rw [plI_append, hp2.out, hp3.out, ← HP.out]; simp [plI, List.map_take, List.map_drop]
              · rw [HQL.out]
                first | exact hj4.wide hbw1.size (Nat.le_refl _) | exact hj4.drew.wide hbw1.size (Nat.le_refl _)
              · first | exact hbw1.trans (hb14.mono hbw1.size) | exact hbw1.trans (hb14.drew.mono hbw1.size))
          · have hcut0 : ∀ W : World, Items W B (some ad) n L → Items W B (some (ad.add ((j + 1) * 4))) (n - (j + 1)) (L.drop (j + 1)) := by
              intro W h
              have := h.drop (k := j + 1) (cap := c) (by omega) hnc
              rwa [if_neg hcJ] at this
            have hcT : (c = j + 1) = False := eq_false hcJ
            clear hcJ
            go_wp2_with (first | (go_at_call 101; refine (unhide HC).mono ?_; rintro e w1 ⟨rfl, hb1⟩; obtain ⟨hcb1, hfb1⟩ := bcell hb1; (have hbw1 : Below w.heap.size w w1 := hbw.trans (hb1.mono (by omega))); (have hcc1 : ∀ q : Addr, q.block < wr.heap.size → w1.cell? q = wr.cell? q := fun q hq => hb1.cell hq); (have hz9 := hbw1.size); (have hS1 := hS.below (hbw1.mono hB))))
            go_region_held3 (fun W => (∀ b o, b < w1.heap.size → W.cell? ⟨b, o, none⟩ = (w1).cell? ⟨b, o, none⟩) ∧ (∀ b o, b < w1.heap.size → W.frozen? ⟨b, o, none⟩ = (w1).frozen? ⟨b, o, none⟩) ∧ Below (w1.heap.size) (w1) W) (exact keep_of (by repeat (first | (with_reducible exact Below.refl _ _) | (with_reducible assumption) | (with_reducible exact (‹_ ∧ _ ∧ Below _ _ _›).2.2) | (with_reducible refine below_drewN ?_ _) | (with_reducible refine Below.drew ?_) | ((with_reducible refine Below.alloc ?_ ?hsd _); (case hsd => (first | exact Nat.le_refl _ | (simp; done) | omega | (simp; omega) | exact (‹_ ∧ _ ∧ Below _ _ _›).2.2.size))) | ((with_reducible refine Below.setCell ?_ ?hsd _); (case hsd => (first | exact Nat.le_refl _ | (simp; done) | omega | (simp; omega) | exact (‹_ ∧ _ ∧ Below _ _ _›).2.2.size))) | ((with_reducible refine Below.trans ?_ (Below.mono (by with_reducible assumption) ?hsd)); (case hsd => (first | exact Nat.le_refl _ | (simp; done) | omega | (simp; omega) | exact (‹_ ∧ _ ∧ Below _ _ _›).2.2.size))) | exact Below.refl _ _ | assumption | exact (‹_ ∧ _ ∧ Below _ _ _›).2.2 | refine below_drewN ?_ _ | refine Below.drew ?_ | refine Below.alloc ?_ (by first | exact Nat.le_refl _ | (simp; done) | omega | (simp; omega) | exact (‹_ ∧ _ ∧ Below _ _ _›).2.2.size) _ | refine Below.setCell ?_ (by first | exact Nat.le_refl _ | (simp; done) | omega | (simp; omega) | exact (‹_ ∧ _ ∧ Below _ _ _›).2.2.size) _ | refine Below.trans ?_ (Below.mono (by assumption) (by first | exact Nat.le_refl _ | (simp; done) | omega | (simp; omega) | exact (‹_ ∧ _ ∧ Below _ _ _›).2.2.size))))) (first | (go_at_call 102; have _t := tok1; have hq := (‹_ ∧ _ ∧ Below _ _ _›).2.2; refine (s_l35CopyN B _ j c (L.take j) _ ?_ ?_).mono ?_; exact (hS1.below (hq.mono (by omega))).take (by omega); exact Nat.le_trans (by omega) hq.size; rintro e w2 ⟨A2, c2, L2, rfl, hp2, ho2, hb2⟩; clear _t tok1; have hqs2 := hq.size; have hbs2 := hb2.size; (try simp at hqs2); (try simp at hbs2); (have ho2 := ho2.wide (lo' := w1.heap.size) (hi' := w2.heap.size) (by first | exact hq.size | exact Nat.le_refl _) (Nat.le_refl _)); replace hp2 := Lib.hid hp2) | (go_at_call 102; have hq := (‹_ ∧ _ ∧ Below _ _ _›).2.2; refine (s_l35CopyN B _ (n - (j + 1)) (c - (j + 1)) (L.drop (j + 1)) _ ?_ ?_).mono ?_; exact hcut0 _ (hS1.below (hq.mono (by omega))); exact Nat.le_trans (by omega) hq.size; rintro e w3 ⟨A3, c3, L3, rfl, hp3, ho3, hb3⟩; have hqs3 := hq.size; have hbs3 := hb3.size; (try simp at hqs3); (try simp at hbs3); (have ho3 := ho3.wide (lo' := w2.heap.size) (hi' := w3.heap.size) (by first | exact Nat.le_refl _ | (simp; done)) (Nat.le_refl _)); (have ho23 : OwnItems w3 w1.heap.size w2.heap.size A2 j c2 L2 := (by first | exact ho2.below hb3 | exact ho2.drew.below hb3)); replace hp3 := Lib.hid hp3) | (refine step_append_G _ rfl (.tmp 27) (.tmp 32) 55 rfl w1.heap.size 60 i0 _ 4 56 Try.underlying55 hii hz0 hz1 hz2 rfl (by omega) (.slice A2 j c2) j (L2.flatMap itemCells) rfl ?_ w3.heap.size A3 (n - (j + 1)) c3 (L3.flatMap itemCells) rfl ?_ (itemCells_one L3) ?_ ?_ ?_ (n - 1) (L2.flatMap itemCells ++ L3.flatMap itemCells) HLN.out rfl ?_; (first | exact ho23.row | exact ho23.drew.row); (first | exact Reads.of_own ho3.row | exact Reads.of_own ho3.drew.row); (unfold maxLen; omega); omega; (have hq := (‹_ ∧ _ ∧ Below _ _ _›).2.2; first | exact hq.size | omega); intro A4 c4 W4 ho4 hg4 hq4; (have hj4 : OwnItems W4 w1.heap.size W4.heap.size A4 (n - 1) c4 (L2 ++ L3) := (by first | exact ho23.join ho3 (by omega) (by omega) hg4 ho4 | exact ho23.drew.join ho3.drew (by omega) (by show w2.heap.size ≤ w3.heap.size; omega) hg4 ho4)); (have hq := (‹_ ∧ _ ∧ Below _ _ _›).2.2; have hb14 := hq.trans (grown_below (B := w1.heap.size) hg4 (fun k hk => (ho23.row.lt k hk).1) hq.size))))
            all_goals (
              go_wp2
              refine bodyPost_ret (v := .tuple #[.slice A4 (n - 1) c4, .bool true]) (by simp [results, Try.results37, go_sem, *]) rfl ?_
              refine uitemsB_cast HR.out ⟨A4, c4, L2 ++ L3, by rw [HQL.out], ?_, ?_, ?_⟩
              · rw [plI_append, hp2.out, hp3.out, ← HP.out]; simp [plI, List.map_take, List.map_drop]
              · rw [HQL.out]
                first | exact hj4.wide hbw1.size (Nat.le_refl _) | exact hj4.drew.wide hbw1.size (Nat.le_refl _)
              · first | exact hbw1.trans (hb14.mono hbw1.size) | exact hbw1.trans (hb14.drew.mono hbw1.size))
        · have HS := Lib.hid (noNm_succ HN.out HX.out hq)
          have hbq := beq_toList_false hq
          have hco := unhide HCO wr hbw
          rw [hck] at hco
          have HC := hide hco
          clear hco hck hq
          go_wp2_with (first | (go_at_call 101; refine (unhide HC).mono ?_; rintro e w1 ⟨rfl, hb1⟩; obtain ⟨hcb1, hfb1⟩ := bcell hb1; (have hcc1 : ∀ q : Addr, q.block < wr.heap.size → w1.cell? q = wr.cell? q := fun q hq => hb1.cell hq)))
          go_roundw
          case rel => exact ⟨j + 1, by omega, by go_num, HS.out, hbw.trans (hb1.mono (by omega))⟩
          case measure => simp [intOf]; omega
    · have hjn : j = n := by omega
      have HR := Lib.hid (dropped_zero (P := P) (name := name) (by rw [HL.out, ← hjn]; exact HN.out))
      clear hjn
      go_wp2_with (go_at_call 102; refine (unhide HCP _ hbw).mono ?_; rintro e w3 ⟨A3, c3, L3, rfl, hp3, ho3, hb3⟩; obtain ⟨hcb3, hfb3⟩ := bcell hb3; (have hbw3 : Below w.heap.size w w3 := hbw.trans (hb3.mono hbw.size)))
      refine bodyPost_ret (v := .tuple #[.slice A3 P.length c3, .bool false]) (by simp [results, Try.results37, go_sem, *]) rfl ?_
      exact uitemsB_cast HR.out ⟨A3, c3, L3, rfl, hp3, ho3.wide hbw.size (Nat.le_refl _), hbw3⟩
end Go.Proofs.Ytmmohnbmoilaaaa
