/- The contracts of copyItems, l35Copy; a part of a row of items. -/
import Derived.Test.YtmmohnbmoilaaaaItem2
import Derived.Test.YtmmohnbmoilaaaaCard2
import Derived.Deep.RegionHeld3
namespace Go.Proofs.Ytmmohnbmoilaaaa
open Go.ChangeShapes Go.WideShapes Go.ChangeAt Go.RowKit
set_option linter.unusedVariables false
set_option maxRecDepth 10000

theorem reads_new4 (W : World) (cs : Array Value) (t : TypeId) (n size : Nat) (h : cs.size = n * size) : Reads (W.alloc (.cells cs t)) (W.heap.size + 1) size (some ⟨W.heap.size, 0, none⟩) n cs.toList :=
  ⟨by simpa using h, fun _ => ⟨_, rfl, by simp, fun j u hj => World.news_of_block (blk_new W (.cells cs t)) j u hj⟩⟩
theorem keep_box {B b : Nat} {a W : World} {c0 c1 c2 c3 : Value} {t : TypeId} (h : Below B a W) (hk : W.heap[b]? = some (.cells #[c0, c1, c2, c3] t (0, 0))) : (∀ p : Addr, p.block < B → W.cell? p = a.cell? p) ∧ (W.cell? ⟨b, 0, none⟩ = some c0 ∧ W.cell? ⟨b, 1, none⟩ = some c1 ∧ W.cell? ⟨b, 2, none⟩ = some c2 ∧ W.cell? ⟨b, 3, none⟩ = some c3) ∧ Below B a W :=
  ⟨fun _ hp => h.cell hp, ⟨(blk4 hk).1, (blk4 hk).2.1, (blk4 hk).2.2.1, (blk4 hk).2.2.2.1⟩, h⟩
theorem itemCells_one1 (s : RItem) : ∀ u ∈ itemCells s, u.oneCell' = true := by
  intro u h
  simp [itemCells] at h
  rcases h with rfl | rfl | rfl | rfl <;> rfl
theorem Items.take {w : World} {B n : Nat} {A : Option Addr} {L : List RItem} (h : Items w B A n L) {k : Nat} (hk : k ≤ n) : Items w B A k (L.take k) := by
  have hl := h.len
  refine ⟨⟨by rw [flat_len itemCells_len, List.length_take]; omega, fun h0 => ?_⟩, by have := h.nb; omega, fun r hr => h.in_ r (List.mem_of_mem_take hr)⟩
  obtain ⟨ad, e, hb, hc⟩ := h.rd.2 (by omega)
  refine ⟨ad, e, hb, fun j u hu => hc j u ?_⟩
  rw [← flat_take itemCells_len] at hu
  rw [List.getElem?_take] at hu
  split at hu
  · exact hu
  · cases hu
theorem Items.drop {w : World} {B n : Nat} {A : Option Addr} {L : List RItem} (h : Items w B A n L) {k cap : Nat} (hk : k ≤ n) (hc : n ≤ cap) : Items w B (if cap = k then A else A.map (·.add (k * 4))) (n - k) (L.drop k) := by
  have hcut := h.rd.cut hk hc
  have he : (L.flatMap itemCells).drop (k * 4) = (L.drop k).flatMap itemCells := by
    have h1 : L.flatMap itemCells = (L.take k).flatMap itemCells ++ (L.drop k).flatMap itemCells := by rw [← List.flatMap_append, List.take_append_drop]
    have h2 : ((L.take k).flatMap itemCells).length = k * 4 := by rw [flat_len itemCells_len, List.length_take, h.len]; omega
    rw [h1, ← h2, List.drop_left]
  rw [he] at hcut
  exact ⟨hcut, by have := h.nb; omega, fun r hr => h.in_ r (List.mem_of_mem_drop hr)⟩

set_option maxHeartbeats 6400000 in
theorem u_copyItems (P : List PItem) (B : Nat) (A : Option Addr) (n c : Nat) (L : List RItem) (w : World) (hp : plI L = P) (hS : Items w B A n L) (hB : B ≤ w.heap.size) :
    Calls Try.prog 105 #[.slice A n c] w (UItems P w) := by
  have hn := hS.nb
  have hl : P.length = n := by rw [← hp, plI_len, hS.len]
  have HL := Lib.hid hl
  have HP := Lib.hid hp
  clear hl hp
  obtain ⟨i0, hi0, hz0, hz1i, hz2⟩ := info_parts info_itemCells
  go_enter Try.func105, Try.ntmps105
  go_wp2
  go_loopw [3, 5, 9] (fun q y i wr => ∃ (j : Nat) (A9 : Option Addr) (c9 : Nat) (M : List RItem), j ≤ n ∧ i = .int .i64 j ∧ q = .slice A9 j c9 ∧ Hid (M.length = j) ∧ Hid (plI M = P.take j) ∧ OwnItems wr w.heap.size wr.heap.size A9 j c9 M ∧ Below w.heap.size w wr) (fun _ _ i _ => n - (intOf i).toNat)
  case atStart =>
    have h := made_at (e := 60) (size := 4) w w.heap.size w.heap.size rfl (Nat.le_refl _)
    exact ⟨0, _, _, [], Nat.zero_le _, rfl, rfl, rfl, rfl, OwnItems.nil h (fun k hk => (h.lt k hk).2), (by repeat (first | (with_reducible exact Below.refl _ _) | (with_reducible assumption) | (with_reducible exact (‹_ ∧ _ ∧ Below _ _ _›).2.2) | (with_reducible refine below_drewN ?_ _) | (with_reducible refine Below.drew ?_) | ((with_reducible refine Below.alloc ?_ ?hsd _); (case hsd => (first | exact Nat.le_refl _ | (simp; done) | omega | (simp; omega) | exact (‹_ ∧ _ ∧ Below _ _ _›).2.2.size))) | ((with_reducible refine Below.setCell ?_ ?hsd _); (case hsd => (first | exact Nat.le_refl _ | (simp; done) | omega | (simp; omega) | exact (‹_ ∧ _ ∧ Below _ _ _›).2.2.size))) | ((with_reducible refine Below.trans ?_ (Below.mono (by with_reducible assumption) ?hsd)); (case hsd => (first | exact Nat.le_refl _ | (simp; done) | omega | (simp; omega) | exact (‹_ ∧ _ ∧ Below _ _ _›).2.2.size))) | exact Below.refl _ _ | assumption | exact (‹_ ∧ _ ∧ Below _ _ _›).2.2 | refine below_drewN ?_ _ | refine Below.drew ?_ | refine Below.alloc ?_ (by first | exact Nat.le_refl _ | (simp; done) | omega | (simp; omega) | exact (‹_ ∧ _ ∧ Below _ _ _›).2.2.size) _ | refine Below.setCell ?_ (by first | exact Nat.le_refl _ | (simp; done) | omega | (simp; omega) | exact (‹_ ∧ _ ∧ Below _ _ _›).2.2.size) _ | refine Below.trans ?_ (Below.mono (by assumption) (by first | exact Nat.le_refl _ | (simp; done) | omega | (simp; omega) | exact (‹_ ∧ _ ∧ Below _ _ _›).2.2.size))))⟩
  case round =>
    obtain ⟨j, A9, c9, M, hj, rfl, rfl, HM, HT, hown, hb⟩ := hrel
    have hzr := hb.size
    by_cases hlt : j < n
    · have hSr := hS.below (hb.mono hB)
      obtain ⟨hk1, ad, rfl, hab, hc0, hc1, hc2, hc3, hss, hnm⟩ := hSr.at_ hlt
      have hx : (plI L)[j]'(by rw [plI_len]; exact hk1) = L[j].x := by simp [plI]
      have HTK : Hid (P.take (j + 1) = P.take j ++ [L[j].x]) := by
        unfold Hid
        have hP := HP.out
        subst hP
        rw [List.take_succ_eq_append_getElem (by rw [plI_len]; exact hk1), hx]
      clear hx
      generalize L[j] = r at *
      obtain ⟨⟨nm, d, f, ss⟩, A0, c0⟩ := r
      simp only at hc0 hc1 hc2 hc3 hss hnm HTK
      have hn0 := hss.nb
      go_wp2
      have hk0 := blk_new wr (.cells #[.string nm, .int .i64 d, .int .i64 f, .slice A0 ss.length c0] 60)
      have hbW : Below wr.heap.size wr (wr.alloc (.cells #[.string nm, .int .i64 d, .int .i64 f, .slice A0 ss.length c0] 60)) := (by repeat (first | (with_reducible exact Below.refl _ _) | (with_reducible assumption) | (with_reducible exact (‹_ ∧ _ ∧ Below _ _ _›).2.2) | (with_reducible refine below_drewN ?_ _) | (with_reducible refine Below.drew ?_) | ((with_reducible refine Below.alloc ?_ ?hsd _); (case hsd => (first | exact Nat.le_refl _ | (simp; done) | omega | (simp; omega) | exact (‹_ ∧ _ ∧ Below _ _ _›).2.2.size))) | ((with_reducible refine Below.setCell ?_ ?hsd _); (case hsd => (first | exact Nat.le_refl _ | (simp; done) | omega | (simp; omega) | exact (‹_ ∧ _ ∧ Below _ _ _›).2.2.size))) | ((with_reducible refine Below.trans ?_ (Below.mono (by with_reducible assumption) ?hsd)); (case hsd => (first | exact Nat.le_refl _ | (simp; done) | omega | (simp; omega) | exact (‹_ ∧ _ ∧ Below _ _ _›).2.2.size))) | exact Below.refl _ _ | assumption | exact (‹_ ∧ _ ∧ Below _ _ _›).2.2 | refine below_drewN ?_ _ | refine Below.drew ?_ | refine Below.alloc ?_ (by first | exact Nat.le_refl _ | (simp; done) | omega | (simp; omega) | exact (‹_ ∧ _ ∧ Below _ _ _›).2.2.size) _ | refine Below.setCell ?_ (by first | exact Nat.le_refl _ | (simp; done) | omega | (simp; omega) | exact (‹_ ∧ _ ∧ Below _ _ _›).2.2.size) _ | refine Below.trans ?_ (Below.mono (by assumption) (by first | exact Nat.le_refl _ | (simp; done) | omega | (simp; omega) | exact (‹_ ∧ _ ∧ Below _ _ _›).2.2.size))))
      have hs0 := hss.alloc (by omega) (.cells #[.string nm, .int .i64 d, .int .i64 f, .slice A0 ss.length c0] 60)
      have ho0 := (hown.alloc (.cells #[.string nm, .int .i64 d, .int .i64 f, .slice A0 ss.length c0] 60))
      generalize (wr.alloc (.cells #[.string nm, .int .i64 d, .int .i64 f, .slice A0 ss.length c0] 60)) = w0 at *
      obtain ⟨hy0, hy1, hy2, hy3, hyl⟩ := blk4 hk0
      have hq2 : wr.heap.size ≤ w0.heap.size := hbW.size
      have hs0B := hs0.more (B' := w0.heap.size) (by omega)
      go_region_held3 (fun W => (∀ p : Addr, p.block < w.heap.size → W.cell? p = w0.cell? p) ∧ (W.cell? ⟨wr.heap.size, 0, none⟩ = some (.string nm) ∧ W.cell? ⟨wr.heap.size, 1, none⟩ = some (.int .i64 d) ∧ W.cell? ⟨wr.heap.size, 2, none⟩ = some (.int .i64 f) ∧ W.cell? ⟨wr.heap.size, 3, none⟩ = some (.slice A0 ss.length c0)) ∧ Below w.heap.size w0 W) (first | exact keep_box (by repeat (first | (with_reducible exact Below.refl _ _) | (with_reducible assumption) | (with_reducible exact (‹_ ∧ _ ∧ Below _ _ _›).2.2) | (with_reducible refine below_drewN ?_ _) | (with_reducible refine Below.drew ?_) | ((with_reducible refine Below.alloc ?_ ?hsd _); (case hsd => (first | exact Nat.le_refl _ | (simp; done) | omega | (simp; omega) | exact (‹_ ∧ _ ∧ Below _ _ _›).2.2.size))) | ((with_reducible refine Below.setCell ?_ ?hsd _); (case hsd => (first | exact Nat.le_refl _ | (simp; done) | omega | (simp; omega) | exact (‹_ ∧ _ ∧ Below _ _ _›).2.2.size))) | ((with_reducible refine Below.trans ?_ (Below.mono (by with_reducible assumption) ?hsd)); (case hsd => (first | exact Nat.le_refl _ | (simp; done) | omega | (simp; omega) | exact (‹_ ∧ _ ∧ Below _ _ _›).2.2.size))) | exact Below.refl _ _ | assumption | exact (‹_ ∧ _ ∧ Below _ _ _›).2.2 | refine below_drewN ?_ _ | refine Below.drew ?_ | refine Below.alloc ?_ (by first | exact Nat.le_refl _ | (simp; done) | omega | (simp; omega) | exact (‹_ ∧ _ ∧ Below _ _ _›).2.2.size) _ | refine Below.setCell ?_ (by first | exact Nat.le_refl _ | (simp; done) | omega | (simp; omega) | exact (‹_ ∧ _ ∧ Below _ _ _›).2.2.size) _ | refine Below.trans ?_ (Below.mono (by assumption) (by first | exact Nat.le_refl _ | (simp; done) | omega | (simp; omega) | exact (‹_ ∧ _ ∧ Below _ _ _›).2.2.size)))) hkb2 | exact keep_box (by repeat (first | (with_reducible exact Below.refl _ _) | (with_reducible assumption) | (with_reducible exact (‹_ ∧ _ ∧ Below _ _ _›).2.2) | (with_reducible refine below_drewN ?_ _) | (with_reducible refine Below.drew ?_) | ((with_reducible refine Below.alloc ?_ ?hsd _); (case hsd => (first | exact Nat.le_refl _ | (simp; done) | omega | (simp; omega) | exact (‹_ ∧ _ ∧ Below _ _ _›).2.2.size))) | ((with_reducible refine Below.setCell ?_ ?hsd _); (case hsd => (first | exact Nat.le_refl _ | (simp; done) | omega | (simp; omega) | exact (‹_ ∧ _ ∧ Below _ _ _›).2.2.size))) | ((with_reducible refine Below.trans ?_ (Below.mono (by with_reducible assumption) ?hsd)); (case hsd => (first | exact Nat.le_refl _ | (simp; done) | omega | (simp; omega) | exact (‹_ ∧ _ ∧ Below _ _ _›).2.2.size))) | exact Below.refl _ _ | assumption | exact (‹_ ∧ _ ∧ Below _ _ _›).2.2 | refine below_drewN ?_ _ | refine Below.drew ?_ | refine Below.alloc ?_ (by first | exact Nat.le_refl _ | (simp; done) | omega | (simp; omega) | exact (‹_ ∧ _ ∧ Below _ _ _›).2.2.size) _ | refine Below.setCell ?_ (by first | exact Nat.le_refl _ | (simp; done) | omega | (simp; omega) | exact (‹_ ∧ _ ∧ Below _ _ _›).2.2.size) _ | refine Below.trans ?_ (Below.mono (by assumption) (by first | exact Nat.le_refl _ | (simp; done) | omega | (simp; omega) | exact (‹_ ∧ _ ∧ Below _ _ _›).2.2.size)))) hk0 | exact keep_box (by repeat (first | (with_reducible exact Below.refl _ _) | (with_reducible assumption) | (with_reducible exact (‹_ ∧ _ ∧ Below _ _ _›).2.2) | (with_reducible refine below_drewN ?_ _) | (with_reducible refine Below.drew ?_) | ((with_reducible refine Below.alloc ?_ ?hsd _); (case hsd => (first | exact Nat.le_refl _ | (simp; done) | omega | (simp; omega) | exact (‹_ ∧ _ ∧ Below _ _ _›).2.2.size))) | ((with_reducible refine Below.setCell ?_ ?hsd _); (case hsd => (first | exact Nat.le_refl _ | (simp; done) | omega | (simp; omega) | exact (‹_ ∧ _ ∧ Below _ _ _›).2.2.size))) | ((with_reducible refine Below.trans ?_ (Below.mono (by with_reducible assumption) ?hsd)); (case hsd => (first | exact Nat.le_refl _ | (simp; done) | omega | (simp; omega) | exact (‹_ ∧ _ ∧ Below _ _ _›).2.2.size))) | exact Below.refl _ _ | assumption | exact (‹_ ∧ _ ∧ Below _ _ _›).2.2 | refine below_drewN ?_ _ | refine Below.drew ?_ | refine Below.alloc ?_ (by first | exact Nat.le_refl _ | (simp; done) | omega | (simp; omega) | exact (‹_ ∧ _ ∧ Below _ _ _›).2.2.size) _ | refine Below.setCell ?_ (by first | exact Nat.le_refl _ | (simp; done) | omega | (simp; omega) | exact (‹_ ∧ _ ∧ Below _ _ _›).2.2.size) _ | refine Below.trans ?_ (Below.mono (by assumption) (by first | exact Nat.le_refl _ | (simp; done) | omega | (simp; omega) | exact (‹_ ∧ _ ∧ Below _ _ _›).2.2.size)))) (blk_drew hk0) | exact keep_box (by first | exact hb1X.mono (by omega) | exact (by repeat (first | (with_reducible exact Below.refl _ _) | (with_reducible assumption) | (with_reducible exact (‹_ ∧ _ ∧ Below _ _ _›).2.2) | (with_reducible refine below_drewN ?_ _) | (with_reducible refine Below.drew ?_) | ((with_reducible refine Below.alloc ?_ ?hsd _); (case hsd => (first | exact Nat.le_refl _ | (simp; done) | omega | (simp; omega) | exact (‹_ ∧ _ ∧ Below _ _ _›).2.2.size))) | ((with_reducible refine Below.setCell ?_ ?hsd _); (case hsd => (first | exact Nat.le_refl _ | (simp; done) | omega | (simp; omega) | exact (‹_ ∧ _ ∧ Below _ _ _›).2.2.size))) | ((with_reducible refine Below.trans ?_ (Below.mono (by with_reducible assumption) ?hsd)); (case hsd => (first | exact Nat.le_refl _ | (simp; done) | omega | (simp; omega) | exact (‹_ ∧ _ ∧ Below _ _ _›).2.2.size))) | exact Below.refl _ _ | assumption | exact (‹_ ∧ _ ∧ Below _ _ _›).2.2 | refine below_drewN ?_ _ | refine Below.drew ?_ | refine Below.alloc ?_ (by first | exact Nat.le_refl _ | (simp; done) | omega | (simp; omega) | exact (‹_ ∧ _ ∧ Below _ _ _›).2.2.size) _ | refine Below.setCell ?_ (by first | exact Nat.le_refl _ | (simp; done) | omega | (simp; omega) | exact (‹_ ∧ _ ∧ Below _ _ _›).2.2.size) _ | refine Below.trans ?_ (Below.mono (by assumption) (by first | exact Nat.le_refl _ | (simp; done) | omega | (simp; omega) | exact (‹_ ∧ _ ∧ Below _ _ _›).2.2.size))))) (blk_next hk0 hb1X) | exact keep_box ((hb1X.mono (by omega)).alloc (by omega) _) (blk_alloc (blk_next hk0 hb1X) _)) (first | (go_at_call 106; have hq := (‹_ ∧ _ ∧ Below _ _ _›).2.2; refine (i_copied d f B A0 _ c0 ss _ (hs0.below (hq.mono hB)) (Nat.le_trans (by omega) hq.size)).mono ?_; rintro e w1 ⟨A1, c1, rfl, hor, hb1⟩; (have hb1X : Below w0.heap.size w0 w1 := (by first | exact hb1 | exact (Below.refl _ _).drew.trans hb1 | exact (below_drewN (Below.refl _ _) _).trans hb1)); (have hz1 := hb1X.size); (have horX : w1.ownsRow w0.heap.size 9 1 (.slice A1 ss.length c1) ss.length (ss.map Value.string) := own_base hor hq.size); clear hor; obtain ⟨hv0, hv1, hv2, hv3, hvl⟩ := blk4 (blk_next hk0 hb1X)) | ((have ho1 := (ho0.below hb1X).alloc (.cells #[.string nm, .int .i64 d, .int .i64 f, .slice A1 ss.length c1] 60)); (have hoE := ho1.row); (have hrE : Reads (w1.alloc (.cells #[.string nm, .int .i64 d, .int .i64 f, .slice A1 ss.length c1] 60)) (w1.heap.size + 1) 4 (some ⟨w1.heap.size, 0, none⟩) 1 (itemCells ⟨⟨nm, d, f, ss⟩, A1, c1⟩) := reads_new4 w1 _ _ 1 4 rfl); refine step_append_any _ rfl (.tmp 13) (.tmp 20) _ rfl w.heap.size 60 i0 _ 4 56 Try.underlying55 hi0 hz0 hz1i hz2 rfl (by omega) (.slice A9 j c9) j (M.flatMap itemCells) rfl ?_ (w1.heap.size + 1) (some ⟨w1.heap.size, 0, none⟩) 1 1 (itemCells ⟨⟨nm, d, f, ss⟩, A1, c1⟩) rfl ?_ (itemCells_one1 _) ?_ ?_ ?_ ?_; (first | exact hoE | exact ⟨hoE.1, hoE.2⟩); (first | exact hrE | exact ⟨hrE.1, hrE.2⟩); (unfold maxLen; omega); omega; (simp; omega); intro v1 w2 hoa hga0 hata; (have hga : World.grownBy (w1.alloc (.cells #[.string nm, .int .i64 d, .int .i64 f, .slice A1 ss.length c1] 60)) w2 (Value.slice A9 j c9).ownBlock := (by first | exact hga0 | exact ⟨hga0.os, hga0.tape, hga0.output, hga0.size, hga0.block⟩)); (have hbz2 : Below w.heap.size w0 w2 := (((hb1X.mono (by omega)).alloc (by omega) _).trans (grown_below hga (fun k hk => (ho1.row.lt k hk).1) (by simp; omega)))); (have hkb2 : w2.heap[wr.heap.size]? = some (.cells #[.string nm, .int .i64 d, .int .i64 f, .slice A0 ss.length c0] 60 (0, 0)) := (hga.block wr.heap.size (by simp; omega) (by intro he; have := (hown.row.lt _ he.symm).2; omega)).trans (blk_alloc (blk_next hk0 hb1X) _)); obtain ⟨A7, c7, rfl⟩ := own_slice hoa))
      all_goals (
        go_wp2
        go_roundw
        case rel =>
          have hne : ∀ s ∈ M, ∀ k, s.v.ownBlock = some k → (RItem.v ⟨⟨nm, d, f, ss⟩, A1, c1⟩).ownBlock ≠ some k := by
            intro s hs k hk hk2
            have q1 := ((hown.in_ s hs).row.lt k hk).2
            have q2 := (horX.lt k hk2).1
            omega
          have hfin := OwnItems.append (r := ⟨⟨nm, d, f, ss⟩, A1, c1⟩) (ho1.wide (Nat.le_refl _) (by simp; omega)) ((OwnS.of (own_base horX (by omega)) (Nat.le_refl _)).alloc _ |>.wide (Nat.le_refl _) (by simp)) hne hga hoa
          refine ⟨j + 1, A7, c7, M ++ [⟨⟨nm, d, f, ss⟩, A1, c1⟩], by omega, by go_num, rfl, by unfold Hid; rw [List.length_append, HM.out]; rfl, ?_, hfin, ?_⟩
          · unfold Hid; rw [HTK.out, ← HT.out]; simp [plI]
          · exact (hb.trans ((hbW.trans (hb1X.mono hq2)).mono hzr)).trans ((Below.alloc (Below.refl _ _) (by first | exact Nat.le_refl _ | (simp; done) | omega | (simp; omega) | exact (‹_ ∧ _ ∧ Below _ _ _›).2.2.size) _).trans (grown_below hga (fun k hk => by have := (ho1.row.lt k hk).1; omega) (by simp; omega)))
        case measure => simp [intOf]; omega)
    · have hjn : j = n := by omega
      subst hjn
      have hT : plI M = P := by rw [HT.out]; exact List.take_of_length_le (by have := HL.out; omega)
      have HO := hide (And.intro hT hown)
      clear hown hT
      go_wp2
      go_ret
      have hl := HL.out
      obtain ⟨h1, h2⟩ := unhide HO
      subst hl
      exact ⟨_, _, M, rfl, h1, h2, hb⟩
set_option maxHeartbeats 6400000 in
theorem u_l35Copy (P : List PItem) (B : Nat) (A : Option Addr) (n c : Nat) (L : List RItem) (w : World) (hp : plI L = P) (hS : Items w B A n L) (hB : B ≤ w.heap.size) :
    Calls Try.prog 102 #[.slice A n c] w (UItems P w) := by
  have hn := hS.nb
  have hl : P.length = n := by rw [← hp, plI_len, hS.len]
  have HL := Lib.hid hl
  have HP := Lib.hid hp
  clear hl hp
  obtain ⟨i0, hi0, hz0, hz1i, hz2⟩ := info_parts info_itemCells
  go_enter Try.func102, Try.ntmps102
  go_wp2
  go_loopw [3, 4] (fun q i wr => ∃ (j : Nat) (A9 : Option Addr) (c9 : Nat) (M : List RItem), j ≤ n ∧ i = .int .i64 j ∧ q = .slice A9 j c9 ∧ Hid (M.length = j) ∧ Hid (plI M = P.take j) ∧ OwnItems wr w.heap.size wr.heap.size A9 j c9 M ∧ Below w.heap.size w wr) (fun _ i _ => n - (intOf i).toNat)
  case atStart =>
    have h := made_at (e := 60) (size := 4) w w.heap.size w.heap.size rfl (Nat.le_refl _)
    exact ⟨0, _, _, [], Nat.zero_le _, rfl, rfl, rfl, rfl, OwnItems.nil h (fun k hk => (h.lt k hk).2), (by repeat (first | (with_reducible exact Below.refl _ _) | (with_reducible assumption) | (with_reducible exact (‹_ ∧ _ ∧ Below _ _ _›).2.2) | (with_reducible refine below_drewN ?_ _) | (with_reducible refine Below.drew ?_) | ((with_reducible refine Below.alloc ?_ ?hsd _); (case hsd => (first | exact Nat.le_refl _ | (simp; done) | omega | (simp; omega) | exact (‹_ ∧ _ ∧ Below _ _ _›).2.2.size))) | ((with_reducible refine Below.setCell ?_ ?hsd _); (case hsd => (first | exact Nat.le_refl _ | (simp; done) | omega | (simp; omega) | exact (‹_ ∧ _ ∧ Below _ _ _›).2.2.size))) | ((with_reducible refine Below.trans ?_ (Below.mono (by with_reducible assumption) ?hsd)); (case hsd => (first | exact Nat.le_refl _ | (simp; done) | omega | (simp; omega) | exact (‹_ ∧ _ ∧ Below _ _ _›).2.2.size))) | exact Below.refl _ _ | assumption | exact (‹_ ∧ _ ∧ Below _ _ _›).2.2 | refine below_drewN ?_ _ | refine Below.drew ?_ | refine Below.alloc ?_ (by first | exact Nat.le_refl _ | (simp; done) | omega | (simp; omega) | exact (‹_ ∧ _ ∧ Below _ _ _›).2.2.size) _ | refine Below.setCell ?_ (by first | exact Nat.le_refl _ | (simp; done) | omega | (simp; omega) | exact (‹_ ∧ _ ∧ Below _ _ _›).2.2.size) _ | refine Below.trans ?_ (Below.mono (by assumption) (by first | exact Nat.le_refl _ | (simp; done) | omega | (simp; omega) | exact (‹_ ∧ _ ∧ Below _ _ _›).2.2.size))))⟩
  case round =>
    obtain ⟨j, A9, c9, M, hj, rfl, rfl, HM, HT, hown, hb⟩ := hrel
    have hzr := hb.size
    by_cases hlt : j < n
    · have hSr := hS.below (hb.mono hB)
      obtain ⟨hk1, ad, rfl, hab, hc0, hc1, hc2, hc3, hss, hnm⟩ := hSr.at_ hlt
      have hx : (plI L)[j]'(by rw [plI_len]; exact hk1) = L[j].x := by simp [plI]
      have HTK : Hid (P.take (j + 1) = P.take j ++ [L[j].x]) := by
        unfold Hid
        have hP := HP.out
        subst hP
        rw [List.take_succ_eq_append_getElem (by rw [plI_len]; exact hk1), hx]
      clear hx
      generalize L[j] = r at *
      obtain ⟨⟨nm, d, f, ss⟩, A0, c0⟩ := r
      simp only at hc0 hc1 hc2 hc3 hss hnm HTK
      have hn0 := hss.nb
      go_wp2
      obtain ⟨w0, hw0⟩ : ∃ W, W = wr := ⟨_, rfl⟩
      have hbW : Below wr.heap.size wr w0 := by rw [hw0]; exact Below.refl _ _
      have hs0 := hss
      have ho0 := hown
      rw [← hw0] at hs0 ho0 hc0 hc1 hc2 hc3 ⊢
      have hq1 : (ad.add (j * 4)).block < w.heap.size := by rw [block_of_add]; omega
      clear hw0
      have hq2 : wr.heap.size ≤ w0.heap.size := hbW.size
      have hs0B := hs0.more (B' := w0.heap.size) (by omega)
      go_region_held3 (fun W => (∀ p : Addr, p.block < w.heap.size → W.cell? p = (w0).cell? p) ∧ (∀ p : Addr, p.block < w.heap.size → W.frozen? p = (w0).frozen? p) ∧ Below (w.heap.size) (w0) W) (exact keep_ofP (by repeat (first | (with_reducible exact Below.refl _ _) | (with_reducible assumption) | (with_reducible exact (‹_ ∧ _ ∧ Below _ _ _›).2.2) | (with_reducible refine below_drewN ?_ _) | (with_reducible refine Below.drew ?_) | ((with_reducible refine Below.alloc ?_ ?hsd _); (case hsd => (first | exact Nat.le_refl _ | (simp; done) | omega | (simp; omega) | exact (‹_ ∧ _ ∧ Below _ _ _›).2.2.size))) | ((with_reducible refine Below.setCell ?_ ?hsd _); (case hsd => (first | exact Nat.le_refl _ | (simp; done) | omega | (simp; omega) | exact (‹_ ∧ _ ∧ Below _ _ _›).2.2.size))) | ((with_reducible refine Below.trans ?_ (Below.mono (by with_reducible assumption) ?hsd)); (case hsd => (first | exact Nat.le_refl _ | (simp; done) | omega | (simp; omega) | exact (‹_ ∧ _ ∧ Below _ _ _›).2.2.size))) | exact Below.refl _ _ | assumption | exact (‹_ ∧ _ ∧ Below _ _ _›).2.2 | refine below_drewN ?_ _ | refine Below.drew ?_ | refine Below.alloc ?_ (by first | exact Nat.le_refl _ | (simp; done) | omega | (simp; omega) | exact (‹_ ∧ _ ∧ Below _ _ _›).2.2.size) _ | refine Below.setCell ?_ (by first | exact Nat.le_refl _ | (simp; done) | omega | (simp; omega) | exact (‹_ ∧ _ ∧ Below _ _ _›).2.2.size) _ | refine Below.trans ?_ (Below.mono (by assumption) (by first | exact Nat.le_refl _ | (simp; done) | omega | (simp; omega) | exact (‹_ ∧ _ ∧ Below _ _ _›).2.2.size))))) (first | (go_at_call 103; have hq := (‹_ ∧ _ ∧ Below _ _ _›).2.2; refine (s_l05Copy d f B A0 _ c0 ss _ (hs0.below (hq.mono hB)) (Nat.le_trans (by omega) hq.size)).mono ?_; rintro e w1 ⟨A1, c1, rfl, hor, hb1⟩; (have hb1X : Below w0.heap.size w0 w1 := (by first | exact hb1 | exact (Below.refl _ _).drew.trans hb1 | exact (below_drewN (Below.refl _ _) _).trans hb1)); (have hz1 := hb1X.size); (have horX : w1.ownsRow w0.heap.size 9 1 (.slice A1 ss.length c1) ss.length (ss.map Value.string) := own_base hor hq.size); clear hor) | ((have ho1 := (ho0.below hb1X).alloc (.cells #[.string nm, .int .i64 d, .int .i64 f, .slice A1 ss.length c1] 60)); (have hoE := ho1.row); (have hrE : Reads (w1.alloc (.cells #[.string nm, .int .i64 d, .int .i64 f, .slice A1 ss.length c1] 60)) (w1.heap.size + 1) 4 (some ⟨w1.heap.size, 0, none⟩) 1 (itemCells ⟨⟨nm, d, f, ss⟩, A1, c1⟩) := reads_new4 w1 _ _ 1 4 rfl); refine step_append_any _ rfl (.tmp 12) (.tmp 25) _ rfl w.heap.size 60 i0 _ 4 56 Try.underlying55 hi0 hz0 hz1i hz2 rfl (by omega) (.slice A9 j c9) j (M.flatMap itemCells) rfl ?_ (w1.heap.size + 1) (some ⟨w1.heap.size, 0, none⟩) 1 1 (itemCells ⟨⟨nm, d, f, ss⟩, A1, c1⟩) rfl ?_ (itemCells_one1 _) ?_ ?_ ?_ ?_; (first | exact hoE | exact ⟨hoE.1, hoE.2⟩); (first | exact hrE | exact ⟨hrE.1, hrE.2⟩); (unfold maxLen; omega); omega; (simp; omega); intro v1 w2 hoa hga0 hata; (have hga : World.grownBy (w1.alloc (.cells #[.string nm, .int .i64 d, .int .i64 f, .slice A1 ss.length c1] 60)) w2 (Value.slice A9 j c9).ownBlock := (by first | exact hga0 | exact ⟨hga0.os, hga0.tape, hga0.output, hga0.size, hga0.block⟩)); (have hbz2 : Below w.heap.size w0 w2 := (((hb1X.mono (by omega)).alloc (by omega) _).trans (grown_below hga (fun k hk => (ho1.row.lt k hk).1) (by simp; omega)))); obtain ⟨A7, c7, rfl⟩ := own_slice hoa))
      all_goals (
        go_wp2
        go_roundw
        case rel =>
          have hne : ∀ s ∈ M, ∀ k, s.v.ownBlock = some k → (RItem.v ⟨⟨nm, d, f, ss⟩, A1, c1⟩).ownBlock ≠ some k := by
            intro s hs k hk hk2
            have q1 := ((hown.in_ s hs).row.lt k hk).2
            have q2 := (horX.lt k hk2).1
            omega
          have hfin := OwnItems.append (r := ⟨⟨nm, d, f, ss⟩, A1, c1⟩) (ho1.wide (Nat.le_refl _) (by simp; omega)) ((OwnS.of (own_base horX (by omega)) (Nat.le_refl _)).alloc _ |>.wide (Nat.le_refl _) (by simp)) hne hga hoa
          refine ⟨j + 1, A7, c7, M ++ [⟨⟨nm, d, f, ss⟩, A1, c1⟩], by omega, by go_num, rfl, by unfold Hid; rw [List.length_append, HM.out]; rfl, ?_, hfin, ?_⟩
          · unfold Hid; rw [HTK.out, ← HT.out]; simp [plI]
          · exact (hb.trans ((hbW.trans (hb1X.mono hq2)).mono hzr)).trans ((Below.alloc (Below.refl _ _) (by first | exact Nat.le_refl _ | (simp; done) | omega | (simp; omega) | exact (‹_ ∧ _ ∧ Below _ _ _›).2.2.size) _).trans (grown_below hga (fun k hk => by have := (ho1.row.lt k hk).1; omega) (by simp; omega)))
        case measure => simp [intOf]; omega)
    · have hjn : j = n := by omega
      subst hjn
      have hT : plI M = P := by rw [HT.out]; exact List.take_of_length_le (by have := HL.out; omega)
      have HO := hide (And.intro hT hown)
      clear hown hT
      go_wp2
      go_ret
      have hl := HL.out
      obtain ⟨h1, h2⟩ := unhide HO
      subst hl
      exact ⟨_, _, M, rfl, h1, h2, hb⟩
end Go.Proofs.Ytmmohnbmoilaaaa
