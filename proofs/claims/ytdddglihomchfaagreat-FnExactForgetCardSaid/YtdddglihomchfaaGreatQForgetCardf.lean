/- FnExactForgetCard: the contracts behind it, part 6. -/
import Derived.Deep.DeepCutAuto
import Derived.Deep.LoopGhost
import Derived.Deep.RegionHeld3
import Derived.Deep.RegionLaw
import Derived.Laws.OwnMore
import Derived.Lib.SliceRun
import Derived.Lib.SlicesDelete
import Derived.Shelf.Spec.SlicesInsertGrow
import Derived.WalkKit
import Derived.Test.YtdddglihomchfaaGreatRows
import Derived.Test.YtdddglihomchfaaGreatQForgetCarde
namespace Go.Proofs.YtdddglihomchfaaGreat
open Go.ChangeShapes Go.WideShapes Go.ChangeAt Go.RowKit
set_option linter.unusedVariables false
set_option linter.unusedSimpArgs false
set_option maxRecDepth 10000
theorem OwnS.grownP {w w' : World} {lo hi b n : Nat} {A : Option Addr} {c : Nat} {ss : List ByteArray} {v : Value} {xs : List Value} (ho : OwnS w lo hi A c ss) (hp : w.ownsRow b 118 3 v n xs) (hg : w.grownBy w' v.ownBlock) : OwnS w' lo hi A c ss :=
  ⟨own_grown ho.row hg (fun k hk he => own_ne_type ho.row hp (by decide) k hk he), ho.top⟩
theorem OwnSt.grownP {w w' : World} {lo hi b n : Nat} {A : Option Addr} {c : Nat} {st : List PStep} {v : Value} {xs : List Value} (ho : OwnSt w lo hi A c st) (hp : w.ownsRow b 118 3 v n xs) (hg : w.grownBy w' v.ownBlock) : OwnSt w' lo hi A c st :=
  ⟨own_grown ho.row hg (fun k hk he => own_ne_type ho.row hp (by decide) k hk he), ho.top⟩
theorem OwnD.grownP {w w' : World} {lo hi b n : Nat} {A1 A2 A3 : Option Addr} {c1 c2 c3 : Nat} {D : PDraft} {v : Value} {xs : List Value} (ho : OwnD w lo hi A1 c1 A2 c2 A3 c3 D) (hp : w.ownsRow b 118 3 v n xs) (hg : w.grownBy w' v.ownBlock) : OwnD w' lo hi A1 c1 A2 c2 A3 c3 D := ⟨ho.o1.grownP hp hg, ho.o2.grownP hp hg, ho.o3.grownP hp hg, ho.ne⟩
theorem OwnItems.grownP {w w' : World} {lo hi b n N c : Nat} {A : Option Addr} {L : List RItem} {v : Value} {xs : List Value} (ho : OwnItems w lo hi A N c L) (hp : w.ownsRow b 118 3 v n xs) (hg : w.grownBy w' v.ownBlock) : OwnItems w' lo hi A N c L :=
  ⟨own_grown ho.row hg (fun k hk he => own_ne_type ho.row hp (by decide) k hk he), ho.top, fun r hr => (ho.in_ r hr).grownP hp hg, ho.apart⟩
set_option maxHeartbeats 6400000 in
theorem i_workCopied (d1 f1 : Int) (ss1 : List ByteArray) (d2 f2 : Int) (ss2 : List ByteArray) (st : List PStep) (P : List PItem) (pp : List PPaper) (m : Int) (B : Nat) (A1 A2 A3 A4 A5 : Option Addr) (c1 c2 c3 c4 c5 : Nat) (w : World) (hS : RdWork w B A1 A2 A3 A4 c4 A5 ⟨d1, f1, ss1, d2, f2, ss2, st⟩ P pp) (hB : B ≤ w.heap.size) :
    Calls Tryz.prog 91 #[.agg #[.int .i64 d1, .int .i64 f1, .slice A1 ss1.length c1, .int .i64 d2, .int .i64 f2, .slice A2 ss2.length c2, .slice A3 st.length c3, .slice A4 P.length c4, .slice A5 pp.length c5, .int .i64 m]] w (UWork d1 f1 ss1 d2 f2 ss2 st P pp m w) := by
  obtain ⟨L, hpl, hL⟩ := hS.i
  have HPL := Lib.hid hpl
  have hpn := hS.p.nb
  clear hpl
  go_enter Tryz.func91, Tryz.ntmps91
  go_wp2
  have hbW : Below w.heap.size w ((w.alloc (.cells #[.int .i64 d1, .int .i64 f1, .slice A1 ss1.length c1, .int .i64 d2, .int .i64 f2, .slice A2 ss2.length c2, .slice A3 st.length c3, .slice A4 P.length c4, .slice A5 pp.length c5, .int .i64 m] 41)).alloc (.cells #[.int .i64 0, .int .i64 0, .slice none 0 0, .int .i64 0, .int .i64 0, .slice none 0 0, .slice none 0 0, .slice none 0 0, .slice none 0 0, .int .i64 0] 41)) := bel
  have hk1 := box_first w (.cells #[.int .i64 d1, .int .i64 f1, .slice A1 ss1.length c1, .int .i64 d2, .int .i64 f2, .slice A2 ss2.length c2, .slice A3 st.length c3, .slice A4 P.length c4, .slice A5 pp.length c5, .int .i64 m] 41) (.cells #[.int .i64 0, .int .i64 0, .slice none 0 0, .int .i64 0, .int .i64 0, .slice none 0 0, .slice none 0 0, .slice none 0 0, .slice none 0 0, .int .i64 0] 41)
  have hk2 := box_second w (.cells #[.int .i64 d1, .int .i64 f1, .slice A1 ss1.length c1, .int .i64 d2, .int .i64 f2, .slice A2 ss2.length c2, .slice A3 st.length c3, .slice A4 P.length c4, .slice A5 pp.length c5, .int .i64 m] 41) (.cells #[.int .i64 0, .int .i64 0, .slice none 0 0, .int .i64 0, .int .i64 0, .slice none 0 0, .slice none 0 0, .slice none 0 0, .slice none 0 0, .int .i64 0] 41)
  generalize ((w.alloc (.cells #[.int .i64 d1, .int .i64 f1, .slice A1 ss1.length c1, .int .i64 d2, .int .i64 f2, .slice A2 ss2.length c2, .slice A3 st.length c3, .slice A4 P.length c4, .slice A5 pp.length c5, .int .i64 m] 41)).alloc (.cells #[.int .i64 0, .int .i64 0, .slice none 0 0, .int .i64 0, .int .i64 0, .slice none 0 0, .slice none 0 0, .slice none 0 0, .slice none 0 0, .int .i64 0] 41)) = w0 at *
  have hzw := hbW.size
  have hz0_ := blk_lt hk1
  have hz1_ := blk_lt hk2
  obtain ⟨hx0, hx1, hx2, hx3, hx4, hx5, hx6, hx7, hx8, hx9, hxl⟩ := blk10 hk1
  have gD := hS.d.below (hbW.mono hB)
  have gI := hL.below (hbW.mono hB)
  have gP := hS.p.below (hbW.mono hB)
  have hB0 : B ≤ w0.heap.size := by omega
  have hB1 : B ≤ w.heap.size + 1 := by omega
  have hz1q : w.heap.size + 1 ≤ w0.heap.size := by omega
  go_region_held3 (fun W => (∀ b o, b < w.heap.size + 1 → W.cell? ⟨b, o, none⟩ = (w0).cell? ⟨b, o, none⟩) ∧ (∀ b o, b < w.heap.size + 1 → W.frozen? ⟨b, o, none⟩ = (w0).frozen? ⟨b, o, none⟩) ∧ Below (w.heap.size + 1) (w0) W) (exact keep_of bel) (first | (go_at_call 144; have hq := (‹_ ∧ _ ∧ Below _ _ _›).2.2; refine (u_draftCopied d1 f1 ss1 d2 f2 ss2 st B A1 A2 A3 c1 c2 c3 _ (gD.below (hq.mono hB1)) (Nat.le_trans hB0 hq.size)).mono ?_; rintro e w1 ⟨B1, e1, B2, e2, B3, e3, rfl, ho1, hb1⟩; have hqs1 := hq.size; have hbs1 := hb1.size; (try simp at hqs1); (try simp at hbs1); (have hb1X : Below w0.heap.size w0 w1 := (by first | exact hb1 | exact ⟨hb1.os, hb1.tape, hb1.output, hb1.size, hb1.block⟩)); (have ho1X : OwnD w1 w0.heap.size w1.heap.size B1 e1 B2 e2 B3 e3 ⟨d1, f1, ss1, d2, f2, ss2, st⟩ := ho1); (have hkk1 := blk_next hk2 hb1X)) | (go_at_call 145; have hq := (‹_ ∧ _ ∧ Below _ _ _›).2.2; refine (u_copyItems P B A4 P.length c4 L _ HPL.out (gI.below (hq.mono hB1)) (Nat.le_trans hB0 hq.size)).mono ?_; rintro e w2 ⟨B4, e4, L4, rfl, hp4, ho4, hb2⟩; (have HP4 := Lib.hid hp4); clear hp4; have hqs2 := hq.size; have hbs2 := hb2.size; (try simp at hqs2); (try simp at hbs2); (have hb2X : Below w1.heap.size w1 w2 := (by first | exact hb2 | exact ⟨hb2.os, hb2.tape, hb2.output, hb2.size, hb2.block⟩)); (have ho4X : OwnItems w2 w1.heap.size w2.heap.size B4 P.length e4 L4 := ho4); (have ho1Y := ho1X.below hb2X); (have hkk2 := blk_next hkk1 hb2X)) | (go_at_call 146; have hq := (‹_ ∧ _ ∧ Below _ _ _›).2.2; refine (clone_paper B A5 pp.length c5 pp _ (gP.below (hq.mono hB1)) (Nat.le_trans hB0 hq.size)).mono ?_; rintro e w3 ⟨B5, e5, rfl, ho5, hb3⟩; have hqs3 := hq.size; have hbs3 := hb3.size; (try simp at hqs3); (try simp at hbs3); (have hb3X : Below w2.heap.size w2 w3 := (by first | exact hb3 | exact ⟨hb3.os, hb3.tape, hb3.output, hb3.size, hb3.block⟩)); (have ho5X : OwnP w3 w2.heap.size w3.heap.size B5 e5 pp := OwnP.of ho5 (Nat.le_refl _)); (have ho1Z := ho1Y.below hb3X); (have ho4Z := ho4X.below hb3X); (have hkk3 := blk_next hkk2 hb3X); obtain ⟨hv0, hv1, hv2, hv3, hv4, hv5, hv6, hv7, hv8, hv9, hvl⟩ := blk10 hkk3; obtain ⟨⟨hf0, hf1, hf2, hf3, hf4⟩, hf5, hf6, hf7, hf8, hf9⟩ := blk10f hkk3))
  all_goals (
    go_wp2
    have hbx3 : Below w.heap.size w w3 := hbW.trans ((hb1X.mono hzw).trans ((hb2X.mono (Nat.le_trans hzw hb1X.size)).trans (hb3X.mono (Nat.le_trans (Nat.le_trans hzw hb1X.size) hb2X.size))))
    have hs1X := hb1X.size
    have hs2X := hb2X.size
    have hs3X := hb3X.size
    refine bodyPost_ret (v := .agg #[.int .i64 d1, .int .i64 f1, .slice B1 ss1.length e1, .int .i64 d2, .int .i64 f2, .slice B2 ss2.length e2, .slice B3 st.length e3, .slice B4 P.length e4, .slice B5 pp.length e5, .int .i64 m]) (by simp [results, Tryz.results91, go_sem, *]) rfl ?_
    have hbx := boxAt_of hkk3
    have HBX := hide hbx3
    clear hbx3
    refine ⟨B1, e1, B2, e2, B3, e3, B4, e4, B5, e5, rfl, OwnW.mk3 ((OwnDW.of ho1Z).boxy (by repeat (first | (with_reducible exact Boxy.refl _) | (with_reducible refine Boxy.drew ?_) | (with_reducible refine Boxy.drewN ?_ _) | (with_reducible refine Boxy.alloc ?_ _) | ((with_reducible refine Boxy.setCell ?_ ?hbs _); (case hbs => first | (with_reducible exact .inl (by assumption)) | exact .inl (by assumption) | exact .inr (by simp) | exact .inr (by simp; omega)))))) HP4.out (ho4Z.boxy (by repeat (first | (with_reducible exact Boxy.refl _) | (with_reducible refine Boxy.drew ?_) | (with_reducible refine Boxy.drewN ?_ _) | (with_reducible refine Boxy.alloc ?_ _) | ((with_reducible refine Boxy.setCell ?_ ?hbs _); (case hbs => first | (with_reducible exact .inl (by assumption)) | exact .inl (by assumption) | exact .inr (by simp) | exact .inr (by simp; omega)))))) (ho5X.boxy (by repeat (first | (with_reducible exact Boxy.refl _) | (with_reducible refine Boxy.drew ?_) | (with_reducible refine Boxy.drewN ?_ _) | (with_reducible refine Boxy.alloc ?_ _) | ((with_reducible refine Boxy.setCell ?_ ?hbs _); (case hbs => first | (with_reducible exact .inl (by assumption)) | exact .inl (by assumption) | exact .inr (by simp) | exact .inr (by simp; omega)))))) (by simp [World.setCell]; omega) (by omega), ?_⟩
    have hbx3 := unhide HBX
    clear hb1 hb2 hb1X hb2X hb3X
    exact bel)
theorem OwnP.pin {w : World} {lo k c : Nat} {A : Option Addr} {l : List PPaper} (ho : w.ownsRow lo 118 3 (.slice A l.length c) l.length (l.flatMap paperCells)) (h : (Value.slice A l.length c).ownBlock = some k) : OwnP w k (k + 1) A c l :=
  ⟨own_lo ho (fun j hj => by rw [h] at hj; injection hj with hj; omega), fun j hj => by rw [h] at hj; injection hj with hj; omega⟩
set_option maxHeartbeats 6400000 in
theorem s_l38Copy (d1 f1 : Int) (ss1 : List ByteArray) (d2 f2 : Int) (ss2 : List ByteArray) (st : List PStep) (P : List PItem) (pp : List PPaper) (m : Int) (B : Nat) (A1 A2 A3 A4 A5 : Option Addr) (c1 c2 c3 c4 c5 : Nat) (w : World) (hS : RdWork w B A1 A2 A3 A4 c4 A5 ⟨d1, f1, ss1, d2, f2, ss2, st⟩ P pp) (hB : B ≤ w.heap.size) :
    Calls Tryz.prog 90 #[.agg #[.int .i64 d1, .int .i64 f1, .slice A1 ss1.length c1, .int .i64 d2, .int .i64 f2, .slice A2 ss2.length c2, .slice A3 st.length c3, .slice A4 P.length c4, .slice A5 pp.length c5, .int .i64 m]] w (UWork d1 f1 ss1 d2 f2 ss2 st P pp m w) := by
  obtain ⟨L, hpl, hL⟩ := hS.i
  have HPL := Lib.hid hpl
  have hpn := hS.p.nb
  clear hpl
  have hone := paperCells_one pp
  have HONE := hide hone
  clear hone
  obtain ⟨i0, hi0, hz0, hz1, hz2⟩ := info_parts info_paperCells
  go_enter Tryz.func90, Tryz.ntmps90
  go_wp2
  have hbW : Below w.heap.size w ((w.alloc (.cells #[.int .i64 d1, .int .i64 f1, .slice A1 ss1.length c1, .int .i64 d2, .int .i64 f2, .slice A2 ss2.length c2, .slice A3 st.length c3, .slice A4 P.length c4, .slice A5 pp.length c5, .int .i64 m] 41)).alloc (.cells #[.int .i64 0, .int .i64 0, .slice none 0 0, .int .i64 0, .int .i64 0, .slice none 0 0, .slice none 0 0, .slice none 0 0, .slice none 0 0, .int .i64 0] 41)) := bel
  have hk1 := box_first w (.cells #[.int .i64 d1, .int .i64 f1, .slice A1 ss1.length c1, .int .i64 d2, .int .i64 f2, .slice A2 ss2.length c2, .slice A3 st.length c3, .slice A4 P.length c4, .slice A5 pp.length c5, .int .i64 m] 41) (.cells #[.int .i64 0, .int .i64 0, .slice none 0 0, .int .i64 0, .int .i64 0, .slice none 0 0, .slice none 0 0, .slice none 0 0, .slice none 0 0, .int .i64 0] 41)
  have hk2 := box_second w (.cells #[.int .i64 d1, .int .i64 f1, .slice A1 ss1.length c1, .int .i64 d2, .int .i64 f2, .slice A2 ss2.length c2, .slice A3 st.length c3, .slice A4 P.length c4, .slice A5 pp.length c5, .int .i64 m] 41) (.cells #[.int .i64 0, .int .i64 0, .slice none 0 0, .int .i64 0, .int .i64 0, .slice none 0 0, .slice none 0 0, .slice none 0 0, .slice none 0 0, .int .i64 0] 41)
  generalize ((w.alloc (.cells #[.int .i64 d1, .int .i64 f1, .slice A1 ss1.length c1, .int .i64 d2, .int .i64 f2, .slice A2 ss2.length c2, .slice A3 st.length c3, .slice A4 P.length c4, .slice A5 pp.length c5, .int .i64 m] 41)).alloc (.cells #[.int .i64 0, .int .i64 0, .slice none 0 0, .int .i64 0, .int .i64 0, .slice none 0 0, .slice none 0 0, .slice none 0 0, .slice none 0 0, .int .i64 0] 41)) = w0 at *
  have hzw := hbW.size
  have hz0_ := blk_lt hk1
  have hz1_ := blk_lt hk2
  obtain ⟨hx0, hx1, hx2, hx3, hx4, hx5, hx6, hx7, hx8, hx9, hxl⟩ := blk10 hk1
  have gD := hS.d.below (hbW.mono hB)
  have gI := hL.below (hbW.mono hB)
  have gP := hS.p.below (hbW.mono hB)
  have hB0 : B ≤ w0.heap.size := by omega
  have hB1 : B ≤ w.heap.size + 1 := by omega
  have hz1q : w.heap.size + 1 ≤ w0.heap.size := by omega
  go_region_held3 (fun W => (∀ b o, b < w.heap.size + 1 → W.cell? ⟨b, o, none⟩ = (w0).cell? ⟨b, o, none⟩) ∧ (∀ b o, b < w.heap.size + 1 → W.frozen? ⟨b, o, none⟩ = (w0).frozen? ⟨b, o, none⟩) ∧ Below (w.heap.size + 1) (w0) W) (exact keep_of bel) (first | (go_at_call 142; have hq := (‹_ ∧ _ ∧ Below _ _ _›).2.2; refine (u_l37Copy d1 f1 ss1 d2 f2 ss2 st B A1 A2 A3 c1 c2 c3 _ (gD.below (hq.mono hB1)) (Nat.le_trans hB0 hq.size)).mono ?_; rintro e w1 ⟨B1, e1, B2, e2, B3, e3, rfl, ho1, hb1⟩; have hqs1 := hq.size; have hbs1 := hb1.size; (try simp at hqs1); (try simp at hbs1); (have hkk1 : w1.heap[w.heap.size + 1]? = some (.cells #[.int .i64 0, .int .i64 0, .slice none 0 0, .int .i64 0, .int .i64 0, .slice none 0 0, .slice none 0 0, .slice none 0 0, .slice none 0 0, .int .i64 0] 41 (0, 0)) := (by first | exact blk_next hk2 hb1 | exact blk_next (blk_drew hk2) hb1 | exact blk_next (blk_alloc hk2 _) hb1 | exact blk_next (blk_drew (blk_alloc hk2 _)) hb1))) | (go_at_call 143; have hq := (‹_ ∧ _ ∧ Below _ _ _›).2.2; refine (u_l35Copy P B A4 P.length c4 L _ HPL.out (gI.below (hq.mono hB1)) (Nat.le_trans hB0 hq.size)).mono ?_; rintro e w2 ⟨B4, e4, L4, rfl, hp4, ho4, hb2⟩; (have HP4 := Lib.hid hp4); clear hp4; have hqs2 := hq.size; have hbs2 := hb2.size; (try simp at hqs2); (try simp at hbs2); (have hkk2 : w2.heap[w.heap.size + 1]? = some (.cells #[.int .i64 0, .int .i64 0, .slice none 0 0, .int .i64 0, .int .i64 0, .slice none 0 0, .slice none 0 0, .slice none 0 0, .slice none 0 0, .int .i64 0] 41 (0, 0)) := (by first | exact blk_next hkk1 hb2 | exact blk_next (blk_drew hkk1) hb2 | exact blk_next (blk_alloc hkk1 _) hb2 | exact blk_next (blk_drew (blk_alloc hkk1 _)) hb2))) | ((have ho1X : OwnD w1 (w0.heap.size + 1) w1.heap.size B1 e1 B2 e2 B3 e3 ⟨d1, f1, ss1, d2, f2, ss2, st⟩ := ho1.wide (by first | exact Nat.le_refl _ | simp) (Nat.le_refl _)); (have ho4X : OwnItems w2 (w1.heap.size) w2.heap.size B4 P.length e4 L4 := ho4.wide (by first | exact Nat.le_refl _ | simp) (Nat.le_refl _)); (have hb2X : Below w1.heap.size w1 w2 := (by first | exact hb2 | exact ⟨hb2.os, hb2.tape, hb2.output, hb2.size, hb2.block⟩)); (have hb1X : Below (w0.alloc (.cells #[] 118)).heap.size (w0.alloc (.cells #[] 118)) w1 := (by first | exact hb1 | exact ⟨hb1.os, hb1.tape, hb1.output, hb1.size, hb1.block⟩)); (have hoE : World.ownsRow w2 w0.heap.size 118 3 (.slice (some ⟨w0.heap.size, 0, none⟩) 0 0) 0 [] := own_below (own_below (made_at w0 _ _ rfl (by omega)) hb1X) hb2X); (have ho1Y := ho1X.below hb2X); refine step_append_any _ rfl (.tmp 9) (.tmp 11) _ rfl w0.heap.size 118 i0 _ 3 24 Tryz.underlying39 hi0 hz0 hz1 hz2 rfl (by omega) (.slice (some ⟨w0.heap.size, 0, none⟩) 0 0) 0 [] rfl ?_ B A5 pp.length c5 (pp.flatMap paperCells) rfl ?_ (unhide HONE) ?_ ?_ ?_ ?_; (first | exact hoE | exact ⟨hoE.1, hoE.2⟩); (have hq := (‹_ ∧ _ ∧ Below _ _ _›).2.2; exact gP.rd.below (hq.mono hB1)); (unfold maxLen; omega); omega; (have hq := (‹_ ∧ _ ∧ Below _ _ _›).2.2; exact hq.size); intro v3 w3 ho3 hg3 hat3; (have hg3X : World.grownBy w2 w3 (Value.ownBlock (.slice (some ⟨w0.heap.size, 0, none⟩) 0 0)) := (by first | exact hg3 | exact ⟨hg3.os, hg3.tape, hg3.output, hg3.size, hg3.block⟩)); (have hz3 := hg3X.size; (try simp at hz3)); (have hq3 := (‹_ ∧ _ ∧ Below _ _ _›).2.2); (have hbw3 := grown_below hg3 (B := w.heap.size + 1) (fun k hk => Nat.le_trans hz1q (hoE.lt k hk).1) (Nat.le_trans hz1q hq3.size)); (have hbq3 := hq3.trans hbw3); (have hkk3 := blk_markedk (hkk2) hg3X hoE (by decide)); (have ho1Z := ho1Y.grownP hoE hg3X); (have ho4Z := (ho4X).grownP hoE hg3X); clear hg3 hbw3; obtain ⟨hv0, hv1, hv2, hv3, hv4, hv5, hv6, hv7, hv8, hv9, hvl⟩ := blk10 hkk3; obtain ⟨⟨hf0, hf1, hf2, hf3, hf4⟩, hf5, hf6, hf7, hf8, hf9⟩ := blk10f hkk3; rw [Nat.zero_add, List.nil_append] at ho3; obtain ⟨B5, e5, rfl⟩ := own_slice ho3; (have hsz1 := hb1X.size); (have hsz2 := hb2X.size); (simp at hsz1); (have hFin : ∃ l1 l2 k, OwnD w3 l1 w1.heap.size B1 e1 B2 e2 B3 e3 ⟨d1, f1, ss1, d2, f2, ss2, st⟩ ∧ OwnItems w3 l2 w2.heap.size B4 P.length e4 L4 ∧ OwnP w3 k (k + 1) B5 e5 pp ∧ (w0.heap.size ≤ l1 ∧ w1.heap.size ≤ w3.heap.size ∧ w1.heap.size ≤ l2 ∧ w2.heap.size ≤ w3.heap.size ∧ w0.heap.size ≤ k ∧ k + 1 ≤ w3.heap.size ∧ w0.heap.size ≤ w1.heap.size) ∧ (w1.heap.size ≤ k ∨ k + 1 ≤ l1) ∧ (w2.heap.size ≤ k ∨ k + 1 ≤ l2) := (by rcases hat3 with hq9 | hq9; (have hlt9 := (ho3.lt _ (show (Value.slice B5 pp.length e5).ownBlock = some w0.heap.size from hq9)).2; exact ⟨w0.heap.size + 1, w1.heap.size, w0.heap.size, ho1Z, ho4Z, OwnP.pin ho3 hq9, by omega, by omega, by omega⟩); (have hq8 : (Value.slice B5 pp.length e5).ownBlock = some w2.heap.size := hq9; have hlt9 := (ho3.lt _ hq8).2; exact ⟨w0.heap.size + 1, w1.heap.size, w2.heap.size, ho1Z, ho4Z, OwnP.pin ho3 hq8, by omega, by omega, by omega⟩))); (have HFIN := hide hFin); clear hFin hat3) | ((have ho1X : OwnD w1 (w0.heap.size) w1.heap.size B1 e1 B2 e2 B3 e3 ⟨d1, f1, ss1, d2, f2, ss2, st⟩ := ho1.wide (by first | exact Nat.le_refl _ | simp) (Nat.le_refl _)); (have ho4X : OwnItems w2 (w1.heap.size + 1) w2.heap.size B4 P.length e4 L4 := ho4.wide (by first | exact Nat.le_refl _ | simp) (Nat.le_refl _)); (have hb2X : Below (w1.alloc (.cells #[] 118)).heap.size (w1.alloc (.cells #[] 118)) w2 := (by first | exact hb2 | exact ⟨hb2.os, hb2.tape, hb2.output, hb2.size, hb2.block⟩)); (have hb1X : Below w0.heap.size w0 w1 := (by first | exact hb1 | exact ⟨hb1.os, hb1.tape, hb1.output, hb1.size, hb1.block⟩)); (have hoE : World.ownsRow w2 w0.heap.size 118 3 (.slice (some ⟨w1.heap.size, 0, none⟩) 0 0) 0 [] := own_below (made_at w1 _ _ rfl hb1X.size) hb2X); (have ho1Y := (ho1X.alloc (.cells #[] 118)).below hb2X); refine step_append_any _ rfl (.tmp 9) (.tmp 11) _ rfl w0.heap.size 118 i0 _ 3 24 Tryz.underlying39 hi0 hz0 hz1 hz2 rfl (by omega) (.slice (some ⟨w1.heap.size, 0, none⟩) 0 0) 0 [] rfl ?_ B A5 pp.length c5 (pp.flatMap paperCells) rfl ?_ (unhide HONE) ?_ ?_ ?_ ?_; (first | exact hoE | exact ⟨hoE.1, hoE.2⟩); (have hq := (‹_ ∧ _ ∧ Below _ _ _›).2.2; exact gP.rd.below (hq.mono hB1)); (unfold maxLen; omega); omega; (have hq := (‹_ ∧ _ ∧ Below _ _ _›).2.2; exact hq.size); intro v3 w3 ho3 hg3 hat3; (have hg3X : World.grownBy w2 w3 (Value.ownBlock (.slice (some ⟨w1.heap.size, 0, none⟩) 0 0)) := (by first | exact hg3 | exact ⟨hg3.os, hg3.tape, hg3.output, hg3.size, hg3.block⟩)); (have hz3 := hg3X.size; (try simp at hz3)); (have hq3 := (‹_ ∧ _ ∧ Below _ _ _›).2.2); (have hbw3 := grown_below hg3 (B := w.heap.size + 1) (fun k hk => Nat.le_trans hz1q (hoE.lt k hk).1) (Nat.le_trans hz1q hq3.size)); (have hbq3 := hq3.trans hbw3); (have hkk3 := blk_markedk (hkk2) hg3X hoE (by decide)); (have ho1Z := ho1Y.grownP hoE hg3X); (have ho4Z := (ho4X).grownP hoE hg3X); clear hg3 hbw3; obtain ⟨hv0, hv1, hv2, hv3, hv4, hv5, hv6, hv7, hv8, hv9, hvl⟩ := blk10 hkk3; obtain ⟨⟨hf0, hf1, hf2, hf3, hf4⟩, hf5, hf6, hf7, hf8, hf9⟩ := blk10f hkk3; rw [Nat.zero_add, List.nil_append] at ho3; obtain ⟨B5, e5, rfl⟩ := own_slice ho3; (have hsz1 := hb1X.size); (have hsz2 := hb2X.size); (simp at hsz2); (have hFin : ∃ l1 l2 k, OwnD w3 l1 w1.heap.size B1 e1 B2 e2 B3 e3 ⟨d1, f1, ss1, d2, f2, ss2, st⟩ ∧ OwnItems w3 l2 w2.heap.size B4 P.length e4 L4 ∧ OwnP w3 k (k + 1) B5 e5 pp ∧ (w0.heap.size ≤ l1 ∧ w1.heap.size ≤ w3.heap.size ∧ w1.heap.size ≤ l2 ∧ w2.heap.size ≤ w3.heap.size ∧ w0.heap.size ≤ k ∧ k + 1 ≤ w3.heap.size ∧ w0.heap.size ≤ w1.heap.size) ∧ (w1.heap.size ≤ k ∨ k + 1 ≤ l1) ∧ (w2.heap.size ≤ k ∨ k + 1 ≤ l2) := (by rcases hat3 with hq9 | hq9; (have hlt9 := (ho3.lt _ (show (Value.slice B5 pp.length e5).ownBlock = some w1.heap.size from hq9)).2; exact ⟨w0.heap.size, w1.heap.size + 1, w1.heap.size, ho1Z, ho4Z, OwnP.pin ho3 hq9, by omega, by omega, by omega⟩); (have hq8 : (Value.slice B5 pp.length e5).ownBlock = some w2.heap.size := hq9; have hlt9 := (ho3.lt _ hq8).2; exact ⟨w0.heap.size, w1.heap.size + 1, w2.heap.size, ho1Z, ho4Z, OwnP.pin ho3 hq8, by omega, by omega, by omega⟩))); (have HFIN := hide hFin); clear hFin hat3) | ((have ho1X : OwnD w1 (w0.heap.size) w1.heap.size B1 e1 B2 e2 B3 e3 ⟨d1, f1, ss1, d2, f2, ss2, st⟩ := ho1.wide (by first | exact Nat.le_refl _ | simp) (Nat.le_refl _)); (have ho4X : OwnItems w2 (w1.heap.size) w2.heap.size B4 P.length e4 L4 := ho4.wide (by first | exact Nat.le_refl _ | simp) (Nat.le_refl _)); (have hb2X : Below w1.heap.size w1 w2 := (by first | exact hb2 | exact ⟨hb2.os, hb2.tape, hb2.output, hb2.size, hb2.block⟩)); (have hb1X : Below w0.heap.size w0 w1 := (by first | exact hb1 | exact ⟨hb1.os, hb1.tape, hb1.output, hb1.size, hb1.block⟩)); (have hoE : World.ownsRow (w2.alloc (.cells #[] 118)) w0.heap.size 118 3 (.slice (some ⟨w2.heap.size, 0, none⟩) 0 0) 0 [] := made_at w2 _ _ rfl (Nat.le_trans hb1X.size hb2X.size)); (have ho1Y := (ho1X.below hb2X).alloc (.cells #[] 118)); refine step_append_any _ rfl (.tmp 9) (.tmp 11) _ rfl w0.heap.size 118 i0 _ 3 24 Tryz.underlying39 hi0 hz0 hz1 hz2 rfl (by omega) (.slice (some ⟨w2.heap.size, 0, none⟩) 0 0) 0 [] rfl ?_ B A5 pp.length c5 (pp.flatMap paperCells) rfl ?_ (unhide HONE) ?_ ?_ ?_ ?_; (first | exact hoE | exact ⟨hoE.1, hoE.2⟩); (have hq := (‹_ ∧ _ ∧ Below _ _ _›).2.2; exact gP.rd.below (hq.mono hB1)); (unfold maxLen; omega); omega; (have hq := (‹_ ∧ _ ∧ Below _ _ _›).2.2; exact hq.size); intro v3 w3 ho3 hg3 hat3; (have hg3X : World.grownBy (w2.alloc (.cells #[] 118)) w3 (Value.ownBlock (.slice (some ⟨w2.heap.size, 0, none⟩) 0 0)) := (by first | exact hg3 | exact ⟨hg3.os, hg3.tape, hg3.output, hg3.size, hg3.block⟩)); (have hz3 := hg3X.size; (try simp at hz3)); (have hq3 := (‹_ ∧ _ ∧ Below _ _ _›).2.2); (have hbw3 := grown_below hg3 (B := w.heap.size + 1) (fun k hk => Nat.le_trans hz1q (hoE.lt k hk).1) (Nat.le_trans hz1q hq3.size)); (have hbq3 := hq3.trans hbw3); (have hkk3 := blk_markedk (blk_alloc hkk2 _) hg3X hoE (by decide)); (have ho1Z := ho1Y.grownP hoE hg3X); (have ho4Z := (ho4X.alloc (.cells #[] 118)).grownP hoE hg3X); clear hg3 hbw3; obtain ⟨hv0, hv1, hv2, hv3, hv4, hv5, hv6, hv7, hv8, hv9, hvl⟩ := blk10 hkk3; obtain ⟨⟨hf0, hf1, hf2, hf3, hf4⟩, hf5, hf6, hf7, hf8, hf9⟩ := blk10f hkk3; rw [Nat.zero_add, List.nil_append] at ho3; obtain ⟨B5, e5, rfl⟩ := own_slice ho3; (have hsz1 := hb1X.size); (have hsz2 := hb2X.size); (have hFin : ∃ l1 l2 k, OwnD w3 l1 w1.heap.size B1 e1 B2 e2 B3 e3 ⟨d1, f1, ss1, d2, f2, ss2, st⟩ ∧ OwnItems w3 l2 w2.heap.size B4 P.length e4 L4 ∧ OwnP w3 k (k + 1) B5 e5 pp ∧ (w0.heap.size ≤ l1 ∧ w1.heap.size ≤ w3.heap.size ∧ w1.heap.size ≤ l2 ∧ w2.heap.size ≤ w3.heap.size ∧ w0.heap.size ≤ k ∧ k + 1 ≤ w3.heap.size ∧ w0.heap.size ≤ w1.heap.size) ∧ (w1.heap.size ≤ k ∨ k + 1 ≤ l1) ∧ (w2.heap.size ≤ k ∨ k + 1 ≤ l2) := (by rcases hat3 with hq9 | hq9; (have hlt9 := (ho3.lt _ (show (Value.slice B5 pp.length e5).ownBlock = some w2.heap.size from hq9)).2; exact ⟨w0.heap.size, w1.heap.size, w2.heap.size, ho1Z, ho4Z, OwnP.pin ho3 hq9, by omega, by omega, by omega⟩); (have hq8 : (Value.slice B5 pp.length e5).ownBlock = some (w2.heap.size + 1) := (hq9.trans (by simp)); have hlt9 := (ho3.lt _ hq8).2; exact ⟨w0.heap.size, w1.heap.size, (w2.heap.size + 1), ho1Z, ho4Z, OwnP.pin ho3 hq8, by omega, by omega, by omega⟩))); (have HFIN := hide hFin); clear hFin hat3))
  all_goals (
    go_wp2
    have hbx3 : Below w.heap.size w w3 := hbW.trans (hbq3.mono (by omega))
    refine bodyPost_ret (v := .agg #[.int .i64 d1, .int .i64 f1, .slice B1 ss1.length e1, .int .i64 d2, .int .i64 f2, .slice B2 ss2.length e2, .slice B3 st.length e3, .slice B4 P.length e4, .slice B5 pp.length e5, .int .i64 m]) (by simp [results, Tryz.results90, go_sem, *]) rfl ?_
    have hbx := boxAt_of hkk3
    have HBX := hide hbx3
    clear hbx3
    obtain ⟨l1, l2, k, q1, q4, q5, hr1, hr2, hr3⟩ := unhide HFIN
    refine ⟨B1, e1, B2, e2, B3, e3, B4, e4, B5, e5, rfl, OwnW.mk3 ((OwnDW.of q1).boxy (by repeat (first | (with_reducible exact Boxy.refl _) | (with_reducible refine Boxy.drew ?_) | (with_reducible refine Boxy.drewN ?_ _) | (with_reducible refine Boxy.alloc ?_ _) | ((with_reducible refine Boxy.setCell ?_ ?hbs _); (case hbs => first | (with_reducible exact .inl (by assumption)) | exact .inl (by assumption) | exact .inr (by simp) | exact .inr (by simp; omega)))))) HP4.out (q4.boxy (by repeat (first | (with_reducible exact Boxy.refl _) | (with_reducible refine Boxy.drew ?_) | (with_reducible refine Boxy.drewN ?_ _) | (with_reducible refine Boxy.alloc ?_ _) | ((with_reducible refine Boxy.setCell ?_ ?hbs _); (case hbs => first | (with_reducible exact .inl (by assumption)) | exact .inl (by assumption) | exact .inr (by simp) | exact .inr (by simp; omega)))))) (q5.boxy (by repeat (first | (with_reducible exact Boxy.refl _) | (with_reducible refine Boxy.drew ?_) | (with_reducible refine Boxy.drewN ?_ _) | (with_reducible refine Boxy.alloc ?_ _) | ((with_reducible refine Boxy.setCell ?_ ?hbs _); (case hbs => first | (with_reducible exact .inl (by assumption)) | exact .inl (by assumption) | exact .inr (by simp) | exact .inr (by simp; omega)))))) (by simp [World.setCell]; omega) (by omega), ?_⟩
    have hbx3 := unhide HBX
    clear hb1 hb2 hb1X hb2X hq3 hbq3
    exact bel)
end Go.Proofs.YtdddglihomchfaaGreat
namespace Go.Proofs.YtdddglihomchfaaGreat
open Go.ChangeShapes Go.WideShapes Go.ChangeAt Go.RowKit
set_option linter.unusedVariables false
set_option linter.unusedSimpArgs false
set_option maxRecDepth 10000
set_option maxHeartbeats 3200000 in
theorem i_wchanged_yes (d1 f1 : Int) (ss1 : List ByteArray) (d2 f2 : Int) (ss2 : List ByteArray) (st : List PStep) (P : List PItem) (pp : List PPaper) (m : Int) (d1o f1o : Int) (ss1o : List ByteArray) (d2o f2o : Int) (ss2o : List ByteArray) (sto : List PStep) (Po : List PItem) (ppo : List PPaper) (mo : Int) (A1 A2 A3 A4 A5 : Option Addr) (c1 c2 c3 c4 c5 : Nat) (E1 E2 E3 E4 E5 : Option Addr) (g1 g2 g3 g4 g5 : Nat) (B B2 : Nat) (w : World) (hS : RdWork w B A1 A2 A3 A4 c4 A5 ⟨d1, f1, ss1, d2, f2, ss2, st⟩ P pp) (hB : B ≤ w.heap.size) (hO : RdWork w B2 E1 E2 E3 E4 g4 E5 ⟨d1o, f1o, ss1o, d2o, f2o, ss2o, sto⟩ Po ppo) (hB2 : B2 ≤ w.heap.size) (h1 : workOk ⟨⟨d1, f1, ss1, d2, f2, ss2, st⟩, P, pp, m⟩ = true) (h2 : workOk ⟨⟨d1o, f1o, ss1o, d2o, f2o, ss2o, sto⟩, Po, ppo, mo⟩ = true) :
    Calls Tryz.prog 92 #[.agg #[.int .i64 d1, .int .i64 f1, .slice A1 ss1.length c1, .int .i64 d2, .int .i64 f2, .slice A2 ss2.length c2, .slice A3 st.length c3, .slice A4 P.length c4, .slice A5 pp.length c5, .int .i64 m], .agg #[.int .i64 d1o, .int .i64 f1o, .slice E1 ss1o.length g1, .int .i64 d2o, .int .i64 f2o, .slice E2 ss2o.length g2, .slice E3 sto.length g3, .slice E4 Po.length g4, .slice E5 ppo.length g5, .int .i64 mo], .bool true] w fun e w' => e = .returned (.tuple #[.agg #[.int .i64 d1o, .int .i64 f1o, .slice E1 ss1o.length g1, .int .i64 d2o, .int .i64 f2o, .slice E2 ss2o.length g2, .slice E3 sto.length g3, .slice E4 Po.length g4, .slice E5 ppo.length g5, .int .i64 mo], .bool true]) ∧ Below w.heap.size w w' := by
  have H1 := Lib.hid h1
  have H2 := Lib.hid h2
  clear h1 h2
  go_enter Tryz.func92, Tryz.ntmps92
  go_wp2_with fail
  obtain ⟨w1, he_w1⟩ : ∃ x, x = (((w.alloc (.cells #[.int .i64 d1, .int .i64 f1, .slice A1 ss1.length c1, .int .i64 d2, .int .i64 f2, .slice A2 ss2.length c2, .slice A3 st.length c3, .slice A4 P.length c4, .slice A5 pp.length c5, .int .i64 m] 41)).alloc (.cells #[.int .i64 d1o, .int .i64 f1o, .slice E1 ss1o.length g1, .int .i64 d2o, .int .i64 f2o, .slice E2 ss2o.length g2, .slice E3 sto.length g3, .slice E4 Po.length g4, .slice E5 ppo.length g5, .int .i64 mo] 41)).alloc (.cells #[.int .i64 0, .int .i64 0, .slice none 0 0, .int .i64 0, .int .i64 0, .slice none 0 0, .slice none 0 0, .slice none 0 0, .slice none 0 0, .int .i64 0] 41)) := ⟨_, rfl⟩
  have hk_a_w1 : w1.heap[w.heap.size]? = some (.cells #[.int .i64 d1, .int .i64 f1, .slice A1 ss1.length c1, .int .i64 d2, .int .i64 f2, .slice A2 ss2.length c2, .slice A3 st.length c3, .slice A4 P.length c4, .slice A5 pp.length c5, .int .i64 m] 41 (0, 0)) := by rw [he_w1]; exact (blk_alloc (blk_alloc (blk_new_at w (.cells #[.int .i64 d1, .int .i64 f1, .slice A1 ss1.length c1, .int .i64 d2, .int .i64 f2, .slice A2 ss2.length c2, .slice A3 st.length c3, .slice A4 P.length c4, .slice A5 pp.length c5, .int .i64 m] 41) (k := w.heap.size) (by simp [World.setCell])) _) _)
  have hk_b_w1 : w1.heap[w.heap.size + 1]? = some (.cells #[.int .i64 d1o, .int .i64 f1o, .slice E1 ss1o.length g1, .int .i64 d2o, .int .i64 f2o, .slice E2 ss2o.length g2, .slice E3 sto.length g3, .slice E4 Po.length g4, .slice E5 ppo.length g5, .int .i64 mo] 41 (0, 0)) := by rw [he_w1]; exact (blk_alloc (blk_new_at (w.alloc (.cells #[.int .i64 d1, .int .i64 f1, .slice A1 ss1.length c1, .int .i64 d2, .int .i64 f2, .slice A2 ss2.length c2, .slice A3 st.length c3, .slice A4 P.length c4, .slice A5 pp.length c5, .int .i64 m] 41)) (.cells #[.int .i64 d1o, .int .i64 f1o, .slice E1 ss1o.length g1, .int .i64 d2o, .int .i64 f2o, .slice E2 ss2o.length g2, .slice E3 sto.length g3, .slice E4 Po.length g4, .slice E5 ppo.length g5, .int .i64 mo] 41) (k := w.heap.size + 1) (by simp [World.setCell])) _)
  have hk_r_w1 : w1.heap[w.heap.size + 1 + 1]? = some (.cells #[.int .i64 0, .int .i64 0, .slice none 0 0, .int .i64 0, .int .i64 0, .slice none 0 0, .slice none 0 0, .slice none 0 0, .slice none 0 0, .int .i64 0] 41 (0, 0)) := by rw [he_w1]; exact (blk_new_at ((w.alloc (.cells #[.int .i64 d1, .int .i64 f1, .slice A1 ss1.length c1, .int .i64 d2, .int .i64 f2, .slice A2 ss2.length c2, .slice A3 st.length c3, .slice A4 P.length c4, .slice A5 pp.length c5, .int .i64 m] 41)).alloc (.cells #[.int .i64 d1o, .int .i64 f1o, .slice E1 ss1o.length g1, .int .i64 d2o, .int .i64 f2o, .slice E2 ss2o.length g2, .slice E3 sto.length g3, .slice E4 Po.length g4, .slice E5 ppo.length g5, .int .i64 mo] 41)) (.cells #[.int .i64 0, .int .i64 0, .slice none 0 0, .int .i64 0, .int .i64 0, .slice none 0 0, .slice none 0 0, .slice none 0 0, .slice none 0 0, .int .i64 0] 41) (k := w.heap.size + 1 + 1) (by simp [World.setCell]))
  have hbw_w1 : Below w.heap.size w w1 := by rw [he_w1]; exact bel
  have hsw_w1 := hbw_w1.size
  have hch_w1 : w.heap.size ≤ w1.heap.size := by rw [he_w1]; simp [World.setCell]; try omega
  rw [← he_w1]
  clear he_w1
  refine (i_WorkshopOk d1 f1 ss1 d2 f2 ss2 st P pp m B A1 A2 A3 A4 A5 c1 c2 c3 c4 c5 w1 (hS.below (hbw_w1.mono hB)) (Nat.le_trans hB hsw_w1)).mono ?_
  rw [H1.out]
  rintro e w2 ⟨rfl, hb_w2⟩
  have hk_a_w2 := blk_next hk_a_w1 hb_w2
  have hk_b_w2 := blk_next hk_b_w1 hb_w2
  have hk_r_w2 := blk_next hk_r_w1 hb_w2
  have hbw_w2 : Below w.heap.size w w2 := hbw_w1.trans (hb_w2.mono hsw_w1)
  have hsw_w2 := hbw_w2.size
  have hch_w2 : w1.heap.size ≤ w2.heap.size := hb_w2.size
  clear hk_a_w1 hk_b_w1 hk_r_w1 hbw_w1 hsw_w1 hb_w2
  obtain ⟨x0_b, x1_b, x2_b, x3_b, x4_b, x5_b, x6_b, x7_b, x8_b, x9_b, xl_b⟩ := blk10 hk_b_w2
  go_wp2_with fail
  clear x0_b x1_b x2_b x3_b x4_b x5_b x6_b x7_b x8_b x9_b xl_b
  refine (i_WorkshopOk d1o f1o ss1o d2o f2o ss2o sto Po ppo mo B2 E1 E2 E3 E4 E5 g1 g2 g3 g4 g5 w2 (hO.below (hbw_w2.mono hB2)) (Nat.le_trans hB2 hsw_w2)).mono ?_
  rw [H2.out]
  rintro e w3 ⟨rfl, hb_w3⟩
  have hk_a_w3 := blk_next hk_a_w2 hb_w3
  have hk_b_w3 := blk_next hk_b_w2 hb_w3
  have hk_r_w3 := blk_next hk_r_w2 hb_w3
  have hbw_w3 : Below w.heap.size w w3 := hbw_w2.trans (hb_w3.mono hsw_w2)
  have hsw_w3 := hbw_w3.size
  have hch_w3 : w2.heap.size ≤ w3.heap.size := hb_w3.size
  clear hk_a_w2 hk_b_w2 hk_r_w2 hbw_w2 hsw_w2 hb_w3
  obtain ⟨x0_b, x1_b, x2_b, x3_b, x4_b, x5_b, x6_b, x7_b, x8_b, x9_b, xl_b⟩ := blk10 hk_b_w3
  obtain ⟨x0_r, x1_r, x2_r, x3_r, x4_r, x5_r, x6_r, x7_r, x8_r, x9_r, xl_r⟩ := blk10 hk_r_w3
  have f0_r := (blk_cells hk_r_w3 0).2
  have f1_r := (blk_cells hk_r_w3 1).2
  have f2_r := (blk_cells hk_r_w3 2).2
  have f3_r := (blk_cells hk_r_w3 3).2
  have f4_r := (blk_cells hk_r_w3 4).2
  have f5_r := (blk_cells hk_r_w3 5).2
  have f6_r := (blk_cells hk_r_w3 6).2
  have f7_r := (blk_cells hk_r_w3 7).2
  have f8_r := (blk_cells hk_r_w3 8).2
  have f9_r := (blk_cells hk_r_w3 9).2
  go_wp2
  have hbx_r := boxAt_of hk_r_w3
  refine bodyPost_ret (v := .tuple #[.agg #[.int .i64 d1o, .int .i64 f1o, .slice E1 ss1o.length g1, .int .i64 d2o, .int .i64 f2o, .slice E2 ss2o.length g2, .slice E3 sto.length g3, .slice E4 Po.length g4, .slice E5 ppo.length g5, .int .i64 mo], .bool true]) (by simp [results, Tryz.results92, go_sem, *]) rfl ?_
  clear x0_b x1_b x2_b x3_b x4_b x5_b x6_b x7_b x8_b x9_b xl_b x0_r x1_r x2_r x3_r x4_r x5_r x6_r x7_r x8_r x9_r xl_r f0_r f1_r f2_r f3_r f4_r f5_r f6_r f7_r f8_r f9_r
  obtain ⟨wE, heE⟩ : ∃ x, x = ((((((((((w3.setCell ⟨w.heap.size + 1 + 1, 0, none⟩ (.int .i64 d1o)).setCell ⟨w.heap.size + 1 + 1, 1, none⟩ (.int .i64 f1o)).setCell ⟨w.heap.size + 1 + 1, 2, none⟩ (.slice E1 ss1o.length g1)).setCell ⟨w.heap.size + 1 + 1, 3, none⟩ (.int .i64 d2o)).setCell ⟨w.heap.size + 1 + 1, 4, none⟩ (.int .i64 f2o)).setCell ⟨w.heap.size + 1 + 1, 5, none⟩ (.slice E2 ss2o.length g2)).setCell ⟨w.heap.size + 1 + 1, 6, none⟩ (.slice E3 sto.length g3)).setCell ⟨w.heap.size + 1 + 1, 7, none⟩ (.slice E4 Po.length g4)).setCell ⟨w.heap.size + 1 + 1, 8, none⟩ (.slice E5 ppo.length g5)).setCell ⟨w.heap.size + 1 + 1, 9, none⟩ (.int .i64 mo)) := ⟨_, rfl⟩
  have hBW : Below w.heap.size w wE := by rw [heE]; exact bel
  have hsE : wE.heap.size = w3.heap.size := by rw [heE]; simp [World.setCell]
  rw [← heE]
  clear heE
  exact ⟨rfl, hBW⟩
set_option maxHeartbeats 3200000 in
theorem i_wchanged_no (d1 f1 : Int) (ss1 : List ByteArray) (d2 f2 : Int) (ss2 : List ByteArray) (st : List PStep) (P : List PItem) (pp : List PPaper) (m : Int) (d1o f1o : Int) (ss1o : List ByteArray) (d2o f2o : Int) (ss2o : List ByteArray) (sto : List PStep) (Po : List PItem) (ppo : List PPaper) (mo : Int) (A1 A2 A3 A4 A5 : Option Addr) (c1 c2 c3 c4 c5 : Nat) (E1 E2 E3 E4 E5 : Option Addr) (g1 g2 g3 g4 g5 : Nat) (b : Bool) (B B2 : Nat) (w : World) (hS : RdWork w B A1 A2 A3 A4 c4 A5 ⟨d1, f1, ss1, d2, f2, ss2, st⟩ P pp) (hB : B ≤ w.heap.size) (hO : RdWork w B2 E1 E2 E3 E4 g4 E5 ⟨d1o, f1o, ss1o, d2o, f2o, ss2o, sto⟩ Po ppo) (hB2 : B2 ≤ w.heap.size) (hn : (b && (workOk ⟨⟨d1, f1, ss1, d2, f2, ss2, st⟩, P, pp, m⟩ && workOk ⟨⟨d1o, f1o, ss1o, d2o, f2o, ss2o, sto⟩, Po, ppo, mo⟩)) = false) :
    Calls Tryz.prog 92 #[.agg #[.int .i64 d1, .int .i64 f1, .slice A1 ss1.length c1, .int .i64 d2, .int .i64 f2, .slice A2 ss2.length c2, .slice A3 st.length c3, .slice A4 P.length c4, .slice A5 pp.length c5, .int .i64 m], .agg #[.int .i64 d1o, .int .i64 f1o, .slice E1 ss1o.length g1, .int .i64 d2o, .int .i64 f2o, .slice E2 ss2o.length g2, .slice E3 sto.length g3, .slice E4 Po.length g4, .slice E5 ppo.length g5, .int .i64 mo], .bool b] w (UWorkB d1 f1 ss1 d2 f2 ss2 st P pp m false w) := by
  cases b
  case false =>
    clear hn
    go_enter Tryz.func92, Tryz.ntmps92
    go_wp2_with fail
    obtain ⟨w1, he_w1⟩ : ∃ x, x = (((w.alloc (.cells #[.int .i64 d1, .int .i64 f1, .slice A1 ss1.length c1, .int .i64 d2, .int .i64 f2, .slice A2 ss2.length c2, .slice A3 st.length c3, .slice A4 P.length c4, .slice A5 pp.length c5, .int .i64 m] 41)).alloc (.cells #[.int .i64 d1o, .int .i64 f1o, .slice E1 ss1o.length g1, .int .i64 d2o, .int .i64 f2o, .slice E2 ss2o.length g2, .slice E3 sto.length g3, .slice E4 Po.length g4, .slice E5 ppo.length g5, .int .i64 mo] 41)).alloc (.cells #[.int .i64 0, .int .i64 0, .slice none 0 0, .int .i64 0, .int .i64 0, .slice none 0 0, .slice none 0 0, .slice none 0 0, .slice none 0 0, .int .i64 0] 41)) := ⟨_, rfl⟩
    have hk_a_w1 : w1.heap[w.heap.size]? = some (.cells #[.int .i64 d1, .int .i64 f1, .slice A1 ss1.length c1, .int .i64 d2, .int .i64 f2, .slice A2 ss2.length c2, .slice A3 st.length c3, .slice A4 P.length c4, .slice A5 pp.length c5, .int .i64 m] 41 (0, 0)) := by rw [he_w1]; exact (blk_alloc (blk_alloc (blk_new_at w (.cells #[.int .i64 d1, .int .i64 f1, .slice A1 ss1.length c1, .int .i64 d2, .int .i64 f2, .slice A2 ss2.length c2, .slice A3 st.length c3, .slice A4 P.length c4, .slice A5 pp.length c5, .int .i64 m] 41) (k := w.heap.size) (by simp [World.setCell])) _) _)
    have hk_b_w1 : w1.heap[w.heap.size + 1]? = some (.cells #[.int .i64 d1o, .int .i64 f1o, .slice E1 ss1o.length g1, .int .i64 d2o, .int .i64 f2o, .slice E2 ss2o.length g2, .slice E3 sto.length g3, .slice E4 Po.length g4, .slice E5 ppo.length g5, .int .i64 mo] 41 (0, 0)) := by rw [he_w1]; exact (blk_alloc (blk_new_at (w.alloc (.cells #[.int .i64 d1, .int .i64 f1, .slice A1 ss1.length c1, .int .i64 d2, .int .i64 f2, .slice A2 ss2.length c2, .slice A3 st.length c3, .slice A4 P.length c4, .slice A5 pp.length c5, .int .i64 m] 41)) (.cells #[.int .i64 d1o, .int .i64 f1o, .slice E1 ss1o.length g1, .int .i64 d2o, .int .i64 f2o, .slice E2 ss2o.length g2, .slice E3 sto.length g3, .slice E4 Po.length g4, .slice E5 ppo.length g5, .int .i64 mo] 41) (k := w.heap.size + 1) (by simp [World.setCell])) _)
    have hk_r_w1 : w1.heap[w.heap.size + 1 + 1]? = some (.cells #[.int .i64 0, .int .i64 0, .slice none 0 0, .int .i64 0, .int .i64 0, .slice none 0 0, .slice none 0 0, .slice none 0 0, .slice none 0 0, .int .i64 0] 41 (0, 0)) := by rw [he_w1]; exact (blk_new_at ((w.alloc (.cells #[.int .i64 d1, .int .i64 f1, .slice A1 ss1.length c1, .int .i64 d2, .int .i64 f2, .slice A2 ss2.length c2, .slice A3 st.length c3, .slice A4 P.length c4, .slice A5 pp.length c5, .int .i64 m] 41)).alloc (.cells #[.int .i64 d1o, .int .i64 f1o, .slice E1 ss1o.length g1, .int .i64 d2o, .int .i64 f2o, .slice E2 ss2o.length g2, .slice E3 sto.length g3, .slice E4 Po.length g4, .slice E5 ppo.length g5, .int .i64 mo] 41)) (.cells #[.int .i64 0, .int .i64 0, .slice none 0 0, .int .i64 0, .int .i64 0, .slice none 0 0, .slice none 0 0, .slice none 0 0, .slice none 0 0, .int .i64 0] 41) (k := w.heap.size + 1 + 1) (by simp [World.setCell]))
    have hbw_w1 : Below w.heap.size w w1 := by rw [he_w1]; exact bel
    have hsw_w1 := hbw_w1.size
    have hch_w1 : w.heap.size ≤ w1.heap.size := by rw [he_w1]; simp [World.setCell]; try omega
    rw [← he_w1]
    clear he_w1
    refine (i_workCopied d1 f1 ss1 d2 f2 ss2 st P pp m B A1 A2 A3 A4 A5 c1 c2 c3 c4 c5 w1 (hS.below (hbw_w1.mono hB)) (Nat.le_trans hB hsw_w1)).mono ?_
    rintro e w2 ⟨B1, e1, B2q, e2, B3, e3, B4, e4, B5, e5, rfl, hon, hb_w2⟩
    have hk_a_w2 := blk_next hk_a_w1 hb_w2
    have hk_b_w2 := blk_next hk_b_w1 hb_w2
    have hk_r_w2 := blk_next hk_r_w1 hb_w2
    have hbw_w2 : Below w.heap.size w w2 := hbw_w1.trans (hb_w2.mono hsw_w1)
    have hsw_w2 := hbw_w2.size
    have hch_w2 : w1.heap.size ≤ w2.heap.size := hb_w2.size
    clear hk_a_w1 hk_b_w1 hk_r_w1 hbw_w1 hsw_w1 hb_w2
    have ho_c_w2 := hon
    clear hon
    have hoW := ho_c_w2.wide (lo' := w.heap.size) (hi' := w2.heap.size) (by omega) (Nat.le_refl _)
    clear ho_c_w2
    obtain ⟨x0_r, x1_r, x2_r, x3_r, x4_r, x5_r, x6_r, x7_r, x8_r, x9_r, xl_r⟩ := blk10 hk_r_w2
    have f0_r := (blk_cells hk_r_w2 0).2
    have f1_r := (blk_cells hk_r_w2 1).2
    have f2_r := (blk_cells hk_r_w2 2).2
    have f3_r := (blk_cells hk_r_w2 3).2
    have f4_r := (blk_cells hk_r_w2 4).2
    have f5_r := (blk_cells hk_r_w2 5).2
    have f6_r := (blk_cells hk_r_w2 6).2
    have f7_r := (blk_cells hk_r_w2 7).2
    have f8_r := (blk_cells hk_r_w2 8).2
    have f9_r := (blk_cells hk_r_w2 9).2
    go_wp2
    have hbx_r := boxAt_of hk_r_w2
    refine bodyPost_ret (v := .tuple #[.agg #[.int .i64 d1, .int .i64 f1, .slice B1 ss1.length e1, .int .i64 d2, .int .i64 f2, .slice B2q ss2.length e2, .slice B3 st.length e3, .slice B4 P.length e4, .slice B5 pp.length e5, .int .i64 m], .bool false]) (by simp [results, Tryz.results92, go_sem, *]) rfl ?_
    clear x0_r x1_r x2_r x3_r x4_r x5_r x6_r x7_r x8_r x9_r xl_r f0_r f1_r f2_r f3_r f4_r f5_r f6_r f7_r f8_r f9_r
    obtain ⟨wE, heE⟩ : ∃ x, x = ((((((((((w2.setCell ⟨w.heap.size + 1 + 1, 0, none⟩ (.int .i64 d1)).setCell ⟨w.heap.size + 1 + 1, 1, none⟩ (.int .i64 f1)).setCell ⟨w.heap.size + 1 + 1, 2, none⟩ (.slice B1 ss1.length e1)).setCell ⟨w.heap.size + 1 + 1, 3, none⟩ (.int .i64 d2)).setCell ⟨w.heap.size + 1 + 1, 4, none⟩ (.int .i64 f2)).setCell ⟨w.heap.size + 1 + 1, 5, none⟩ (.slice B2q ss2.length e2)).setCell ⟨w.heap.size + 1 + 1, 6, none⟩ (.slice B3 st.length e3)).setCell ⟨w.heap.size + 1 + 1, 7, none⟩ (.slice B4 P.length e4)).setCell ⟨w.heap.size + 1 + 1, 8, none⟩ (.slice B5 pp.length e5)).setCell ⟨w.heap.size + 1 + 1, 9, none⟩ (.int .i64 m)) := ⟨_, rfl⟩
    have hBX : Boxy w2 wE := by rw [heE]; exact boxy
    have hBW : Below w.heap.size w wE := by rw [heE]; exact bel
    have hsE : wE.heap.size = w2.heap.size := by rw [heE]; simp [World.setCell]
    rw [← heE]
    clear heE
    exact ⟨B1, e1, B2q, e2, B3, e3, B4, e4, B5, e5, rfl, (hoW.boxy hBX).wide (Nat.le_refl _) (by omega), hBW⟩
  case true =>
    cases h1 : workOk ⟨⟨d1, f1, ss1, d2, f2, ss2, st⟩, P, pp, m⟩
    case false =>
      have H1 := Lib.hid h1
      clear hn h1
      go_enter Tryz.func92, Tryz.ntmps92
      go_wp2_with fail
      obtain ⟨w1, he_w1⟩ : ∃ x, x = (((w.alloc (.cells #[.int .i64 d1, .int .i64 f1, .slice A1 ss1.length c1, .int .i64 d2, .int .i64 f2, .slice A2 ss2.length c2, .slice A3 st.length c3, .slice A4 P.length c4, .slice A5 pp.length c5, .int .i64 m] 41)).alloc (.cells #[.int .i64 d1o, .int .i64 f1o, .slice E1 ss1o.length g1, .int .i64 d2o, .int .i64 f2o, .slice E2 ss2o.length g2, .slice E3 sto.length g3, .slice E4 Po.length g4, .slice E5 ppo.length g5, .int .i64 mo] 41)).alloc (.cells #[.int .i64 0, .int .i64 0, .slice none 0 0, .int .i64 0, .int .i64 0, .slice none 0 0, .slice none 0 0, .slice none 0 0, .slice none 0 0, .int .i64 0] 41)) := ⟨_, rfl⟩
      have hk_a_w1 : w1.heap[w.heap.size]? = some (.cells #[.int .i64 d1, .int .i64 f1, .slice A1 ss1.length c1, .int .i64 d2, .int .i64 f2, .slice A2 ss2.length c2, .slice A3 st.length c3, .slice A4 P.length c4, .slice A5 pp.length c5, .int .i64 m] 41 (0, 0)) := by rw [he_w1]; exact (blk_alloc (blk_alloc (blk_new_at w (.cells #[.int .i64 d1, .int .i64 f1, .slice A1 ss1.length c1, .int .i64 d2, .int .i64 f2, .slice A2 ss2.length c2, .slice A3 st.length c3, .slice A4 P.length c4, .slice A5 pp.length c5, .int .i64 m] 41) (k := w.heap.size) (by simp [World.setCell])) _) _)
      have hk_b_w1 : w1.heap[w.heap.size + 1]? = some (.cells #[.int .i64 d1o, .int .i64 f1o, .slice E1 ss1o.length g1, .int .i64 d2o, .int .i64 f2o, .slice E2 ss2o.length g2, .slice E3 sto.length g3, .slice E4 Po.length g4, .slice E5 ppo.length g5, .int .i64 mo] 41 (0, 0)) := by rw [he_w1]; exact (blk_alloc (blk_new_at (w.alloc (.cells #[.int .i64 d1, .int .i64 f1, .slice A1 ss1.length c1, .int .i64 d2, .int .i64 f2, .slice A2 ss2.length c2, .slice A3 st.length c3, .slice A4 P.length c4, .slice A5 pp.length c5, .int .i64 m] 41)) (.cells #[.int .i64 d1o, .int .i64 f1o, .slice E1 ss1o.length g1, .int .i64 d2o, .int .i64 f2o, .slice E2 ss2o.length g2, .slice E3 sto.length g3, .slice E4 Po.length g4, .slice E5 ppo.length g5, .int .i64 mo] 41) (k := w.heap.size + 1) (by simp [World.setCell])) _)
      have hk_r_w1 : w1.heap[w.heap.size + 1 + 1]? = some (.cells #[.int .i64 0, .int .i64 0, .slice none 0 0, .int .i64 0, .int .i64 0, .slice none 0 0, .slice none 0 0, .slice none 0 0, .slice none 0 0, .int .i64 0] 41 (0, 0)) := by rw [he_w1]; exact (blk_new_at ((w.alloc (.cells #[.int .i64 d1, .int .i64 f1, .slice A1 ss1.length c1, .int .i64 d2, .int .i64 f2, .slice A2 ss2.length c2, .slice A3 st.length c3, .slice A4 P.length c4, .slice A5 pp.length c5, .int .i64 m] 41)).alloc (.cells #[.int .i64 d1o, .int .i64 f1o, .slice E1 ss1o.length g1, .int .i64 d2o, .int .i64 f2o, .slice E2 ss2o.length g2, .slice E3 sto.length g3, .slice E4 Po.length g4, .slice E5 ppo.length g5, .int .i64 mo] 41)) (.cells #[.int .i64 0, .int .i64 0, .slice none 0 0, .int .i64 0, .int .i64 0, .slice none 0 0, .slice none 0 0, .slice none 0 0, .slice none 0 0, .int .i64 0] 41) (k := w.heap.size + 1 + 1) (by simp [World.setCell]))
      have hbw_w1 : Below w.heap.size w w1 := by rw [he_w1]; exact bel
      have hsw_w1 := hbw_w1.size
      have hch_w1 : w.heap.size ≤ w1.heap.size := by rw [he_w1]; simp [World.setCell]; try omega
      rw [← he_w1]
      clear he_w1
      refine (i_WorkshopOk d1 f1 ss1 d2 f2 ss2 st P pp m B A1 A2 A3 A4 A5 c1 c2 c3 c4 c5 w1 (hS.below (hbw_w1.mono hB)) (Nat.le_trans hB hsw_w1)).mono ?_
      rw [H1.out]
      rintro e w2 ⟨rfl, hb_w2⟩
      have hk_a_w2 := blk_next hk_a_w1 hb_w2
      have hk_b_w2 := blk_next hk_b_w1 hb_w2
      have hk_r_w2 := blk_next hk_r_w1 hb_w2
      have hbw_w2 : Below w.heap.size w w2 := hbw_w1.trans (hb_w2.mono hsw_w1)
      have hsw_w2 := hbw_w2.size
      have hch_w2 : w1.heap.size ≤ w2.heap.size := hb_w2.size
      clear hk_a_w1 hk_b_w1 hk_r_w1 hbw_w1 hsw_w1 hb_w2
      obtain ⟨x0_a, x1_a, x2_a, x3_a, x4_a, x5_a, x6_a, x7_a, x8_a, x9_a, xl_a⟩ := blk10 hk_a_w2
      go_wp2_with fail
      clear x0_a x1_a x2_a x3_a x4_a x5_a x6_a x7_a x8_a x9_a xl_a
      refine (i_workCopied d1 f1 ss1 d2 f2 ss2 st P pp m B A1 A2 A3 A4 A5 c1 c2 c3 c4 c5 w2 (hS.below (hbw_w2.mono hB)) (Nat.le_trans hB hsw_w2)).mono ?_
      rintro e w3 ⟨B1, e1, B2q, e2, B3, e3, B4, e4, B5, e5, rfl, hon, hb_w3⟩
      have hk_a_w3 := blk_next hk_a_w2 hb_w3
      have hk_b_w3 := blk_next hk_b_w2 hb_w3
      have hk_r_w3 := blk_next hk_r_w2 hb_w3
      have hbw_w3 : Below w.heap.size w w3 := hbw_w2.trans (hb_w3.mono hsw_w2)
      have hsw_w3 := hbw_w3.size
      have hch_w3 : w2.heap.size ≤ w3.heap.size := hb_w3.size
      clear hk_a_w2 hk_b_w2 hk_r_w2 hbw_w2 hsw_w2 hb_w3
      have ho_c_w3 := hon
      clear hon
      have hoW := ho_c_w3.wide (lo' := w.heap.size) (hi' := w3.heap.size) (by omega) (Nat.le_refl _)
      clear ho_c_w3
      obtain ⟨x0_r, x1_r, x2_r, x3_r, x4_r, x5_r, x6_r, x7_r, x8_r, x9_r, xl_r⟩ := blk10 hk_r_w3
      have f0_r := (blk_cells hk_r_w3 0).2
      have f1_r := (blk_cells hk_r_w3 1).2
      have f2_r := (blk_cells hk_r_w3 2).2
      have f3_r := (blk_cells hk_r_w3 3).2
      have f4_r := (blk_cells hk_r_w3 4).2
      have f5_r := (blk_cells hk_r_w3 5).2
      have f6_r := (blk_cells hk_r_w3 6).2
      have f7_r := (blk_cells hk_r_w3 7).2
      have f8_r := (blk_cells hk_r_w3 8).2
      have f9_r := (blk_cells hk_r_w3 9).2
      go_wp2
      have hbx_r := boxAt_of hk_r_w3
      refine bodyPost_ret (v := .tuple #[.agg #[.int .i64 d1, .int .i64 f1, .slice B1 ss1.length e1, .int .i64 d2, .int .i64 f2, .slice B2q ss2.length e2, .slice B3 st.length e3, .slice B4 P.length e4, .slice B5 pp.length e5, .int .i64 m], .bool false]) (by simp [results, Tryz.results92, go_sem, *]) rfl ?_
      clear x0_r x1_r x2_r x3_r x4_r x5_r x6_r x7_r x8_r x9_r xl_r f0_r f1_r f2_r f3_r f4_r f5_r f6_r f7_r f8_r f9_r
      obtain ⟨wE, heE⟩ : ∃ x, x = ((((((((((w3.setCell ⟨w.heap.size + 1 + 1, 0, none⟩ (.int .i64 d1)).setCell ⟨w.heap.size + 1 + 1, 1, none⟩ (.int .i64 f1)).setCell ⟨w.heap.size + 1 + 1, 2, none⟩ (.slice B1 ss1.length e1)).setCell ⟨w.heap.size + 1 + 1, 3, none⟩ (.int .i64 d2)).setCell ⟨w.heap.size + 1 + 1, 4, none⟩ (.int .i64 f2)).setCell ⟨w.heap.size + 1 + 1, 5, none⟩ (.slice B2q ss2.length e2)).setCell ⟨w.heap.size + 1 + 1, 6, none⟩ (.slice B3 st.length e3)).setCell ⟨w.heap.size + 1 + 1, 7, none⟩ (.slice B4 P.length e4)).setCell ⟨w.heap.size + 1 + 1, 8, none⟩ (.slice B5 pp.length e5)).setCell ⟨w.heap.size + 1 + 1, 9, none⟩ (.int .i64 m)) := ⟨_, rfl⟩
      have hBX : Boxy w3 wE := by rw [heE]; exact boxy
      have hBW : Below w.heap.size w wE := by rw [heE]; exact bel
      have hsE : wE.heap.size = w3.heap.size := by rw [heE]; simp [World.setCell]
      rw [← heE]
      clear heE
      exact ⟨B1, e1, B2q, e2, B3, e3, B4, e4, B5, e5, rfl, (hoW.boxy hBX).wide (Nat.le_refl _) (by omega), hBW⟩
    case true =>
      have h2 : workOk ⟨⟨d1o, f1o, ss1o, d2o, f2o, ss2o, sto⟩, Po, ppo, mo⟩ = false := by rw [h1] at hn; simpa using hn
      have H1 := Lib.hid h1
      have H2 := Lib.hid h2
      clear hn h1 h2
      go_enter Tryz.func92, Tryz.ntmps92
      go_wp2_with fail
      obtain ⟨w1, he_w1⟩ : ∃ x, x = (((w.alloc (.cells #[.int .i64 d1, .int .i64 f1, .slice A1 ss1.length c1, .int .i64 d2, .int .i64 f2, .slice A2 ss2.length c2, .slice A3 st.length c3, .slice A4 P.length c4, .slice A5 pp.length c5, .int .i64 m] 41)).alloc (.cells #[.int .i64 d1o, .int .i64 f1o, .slice E1 ss1o.length g1, .int .i64 d2o, .int .i64 f2o, .slice E2 ss2o.length g2, .slice E3 sto.length g3, .slice E4 Po.length g4, .slice E5 ppo.length g5, .int .i64 mo] 41)).alloc (.cells #[.int .i64 0, .int .i64 0, .slice none 0 0, .int .i64 0, .int .i64 0, .slice none 0 0, .slice none 0 0, .slice none 0 0, .slice none 0 0, .int .i64 0] 41)) := ⟨_, rfl⟩
      have hk_a_w1 : w1.heap[w.heap.size]? = some (.cells #[.int .i64 d1, .int .i64 f1, .slice A1 ss1.length c1, .int .i64 d2, .int .i64 f2, .slice A2 ss2.length c2, .slice A3 st.length c3, .slice A4 P.length c4, .slice A5 pp.length c5, .int .i64 m] 41 (0, 0)) := by rw [he_w1]; exact (blk_alloc (blk_alloc (blk_new_at w (.cells #[.int .i64 d1, .int .i64 f1, .slice A1 ss1.length c1, .int .i64 d2, .int .i64 f2, .slice A2 ss2.length c2, .slice A3 st.length c3, .slice A4 P.length c4, .slice A5 pp.length c5, .int .i64 m] 41) (k := w.heap.size) (by simp [World.setCell])) _) _)
      have hk_b_w1 : w1.heap[w.heap.size + 1]? = some (.cells #[.int .i64 d1o, .int .i64 f1o, .slice E1 ss1o.length g1, .int .i64 d2o, .int .i64 f2o, .slice E2 ss2o.length g2, .slice E3 sto.length g3, .slice E4 Po.length g4, .slice E5 ppo.length g5, .int .i64 mo] 41 (0, 0)) := by rw [he_w1]; exact (blk_alloc (blk_new_at (w.alloc (.cells #[.int .i64 d1, .int .i64 f1, .slice A1 ss1.length c1, .int .i64 d2, .int .i64 f2, .slice A2 ss2.length c2, .slice A3 st.length c3, .slice A4 P.length c4, .slice A5 pp.length c5, .int .i64 m] 41)) (.cells #[.int .i64 d1o, .int .i64 f1o, .slice E1 ss1o.length g1, .int .i64 d2o, .int .i64 f2o, .slice E2 ss2o.length g2, .slice E3 sto.length g3, .slice E4 Po.length g4, .slice E5 ppo.length g5, .int .i64 mo] 41) (k := w.heap.size + 1) (by simp [World.setCell])) _)
      have hk_r_w1 : w1.heap[w.heap.size + 1 + 1]? = some (.cells #[.int .i64 0, .int .i64 0, .slice none 0 0, .int .i64 0, .int .i64 0, .slice none 0 0, .slice none 0 0, .slice none 0 0, .slice none 0 0, .int .i64 0] 41 (0, 0)) := by rw [he_w1]; exact (blk_new_at ((w.alloc (.cells #[.int .i64 d1, .int .i64 f1, .slice A1 ss1.length c1, .int .i64 d2, .int .i64 f2, .slice A2 ss2.length c2, .slice A3 st.length c3, .slice A4 P.length c4, .slice A5 pp.length c5, .int .i64 m] 41)).alloc (.cells #[.int .i64 d1o, .int .i64 f1o, .slice E1 ss1o.length g1, .int .i64 d2o, .int .i64 f2o, .slice E2 ss2o.length g2, .slice E3 sto.length g3, .slice E4 Po.length g4, .slice E5 ppo.length g5, .int .i64 mo] 41)) (.cells #[.int .i64 0, .int .i64 0, .slice none 0 0, .int .i64 0, .int .i64 0, .slice none 0 0, .slice none 0 0, .slice none 0 0, .slice none 0 0, .int .i64 0] 41) (k := w.heap.size + 1 + 1) (by simp [World.setCell]))
      have hbw_w1 : Below w.heap.size w w1 := by rw [he_w1]; exact bel
      have hsw_w1 := hbw_w1.size
      have hch_w1 : w.heap.size ≤ w1.heap.size := by rw [he_w1]; simp [World.setCell]; try omega
      rw [← he_w1]
      clear he_w1
      refine (i_WorkshopOk d1 f1 ss1 d2 f2 ss2 st P pp m B A1 A2 A3 A4 A5 c1 c2 c3 c4 c5 w1 (hS.below (hbw_w1.mono hB)) (Nat.le_trans hB hsw_w1)).mono ?_
      rw [H1.out]
      rintro e w2 ⟨rfl, hb_w2⟩
      have hk_a_w2 := blk_next hk_a_w1 hb_w2
      have hk_b_w2 := blk_next hk_b_w1 hb_w2
      have hk_r_w2 := blk_next hk_r_w1 hb_w2
      have hbw_w2 : Below w.heap.size w w2 := hbw_w1.trans (hb_w2.mono hsw_w1)
      have hsw_w2 := hbw_w2.size
      have hch_w2 : w1.heap.size ≤ w2.heap.size := hb_w2.size
      clear hk_a_w1 hk_b_w1 hk_r_w1 hbw_w1 hsw_w1 hb_w2
      obtain ⟨x0_b, x1_b, x2_b, x3_b, x4_b, x5_b, x6_b, x7_b, x8_b, x9_b, xl_b⟩ := blk10 hk_b_w2
      go_wp2_with fail
      clear x0_b x1_b x2_b x3_b x4_b x5_b x6_b x7_b x8_b x9_b xl_b
      refine (i_WorkshopOk d1o f1o ss1o d2o f2o ss2o sto Po ppo mo B2 E1 E2 E3 E4 E5 g1 g2 g3 g4 g5 w2 (hO.below (hbw_w2.mono hB2)) (Nat.le_trans hB2 hsw_w2)).mono ?_
      rw [H2.out]
      rintro e w3 ⟨rfl, hb_w3⟩
      have hk_a_w3 := blk_next hk_a_w2 hb_w3
      have hk_b_w3 := blk_next hk_b_w2 hb_w3
      have hk_r_w3 := blk_next hk_r_w2 hb_w3
      have hbw_w3 : Below w.heap.size w w3 := hbw_w2.trans (hb_w3.mono hsw_w2)
      have hsw_w3 := hbw_w3.size
      have hch_w3 : w2.heap.size ≤ w3.heap.size := hb_w3.size
      clear hk_a_w2 hk_b_w2 hk_r_w2 hbw_w2 hsw_w2 hb_w3
      obtain ⟨x0_a, x1_a, x2_a, x3_a, x4_a, x5_a, x6_a, x7_a, x8_a, x9_a, xl_a⟩ := blk10 hk_a_w3
      go_wp2_with fail
      clear x0_a x1_a x2_a x3_a x4_a x5_a x6_a x7_a x8_a x9_a xl_a
      refine (i_workCopied d1 f1 ss1 d2 f2 ss2 st P pp m B A1 A2 A3 A4 A5 c1 c2 c3 c4 c5 w3 (hS.below (hbw_w3.mono hB)) (Nat.le_trans hB hsw_w3)).mono ?_
      rintro e w4 ⟨B1, e1, B2q, e2, B3, e3, B4, e4, B5, e5, rfl, hon, hb_w4⟩
      have hk_a_w4 := blk_next hk_a_w3 hb_w4
      have hk_b_w4 := blk_next hk_b_w3 hb_w4
      have hk_r_w4 := blk_next hk_r_w3 hb_w4
      have hbw_w4 : Below w.heap.size w w4 := hbw_w3.trans (hb_w4.mono hsw_w3)
      have hsw_w4 := hbw_w4.size
      have hch_w4 : w3.heap.size ≤ w4.heap.size := hb_w4.size
      clear hk_a_w3 hk_b_w3 hk_r_w3 hbw_w3 hsw_w3 hb_w4
      have ho_c_w4 := hon
      clear hon
      have hoW := ho_c_w4.wide (lo' := w.heap.size) (hi' := w4.heap.size) (by omega) (Nat.le_refl _)
      clear ho_c_w4
      obtain ⟨x0_r, x1_r, x2_r, x3_r, x4_r, x5_r, x6_r, x7_r, x8_r, x9_r, xl_r⟩ := blk10 hk_r_w4
      have f0_r := (blk_cells hk_r_w4 0).2
      have f1_r := (blk_cells hk_r_w4 1).2
      have f2_r := (blk_cells hk_r_w4 2).2
      have f3_r := (blk_cells hk_r_w4 3).2
      have f4_r := (blk_cells hk_r_w4 4).2
      have f5_r := (blk_cells hk_r_w4 5).2
      have f6_r := (blk_cells hk_r_w4 6).2
      have f7_r := (blk_cells hk_r_w4 7).2
      have f8_r := (blk_cells hk_r_w4 8).2
      have f9_r := (blk_cells hk_r_w4 9).2
      go_wp2
      have hbx_r := boxAt_of hk_r_w4
      refine bodyPost_ret (v := .tuple #[.agg #[.int .i64 d1, .int .i64 f1, .slice B1 ss1.length e1, .int .i64 d2, .int .i64 f2, .slice B2q ss2.length e2, .slice B3 st.length e3, .slice B4 P.length e4, .slice B5 pp.length e5, .int .i64 m], .bool false]) (by simp [results, Tryz.results92, go_sem, *]) rfl ?_
      clear x0_r x1_r x2_r x3_r x4_r x5_r x6_r x7_r x8_r x9_r xl_r f0_r f1_r f2_r f3_r f4_r f5_r f6_r f7_r f8_r f9_r
      obtain ⟨wE, heE⟩ : ∃ x, x = ((((((((((w4.setCell ⟨w.heap.size + 1 + 1, 0, none⟩ (.int .i64 d1)).setCell ⟨w.heap.size + 1 + 1, 1, none⟩ (.int .i64 f1)).setCell ⟨w.heap.size + 1 + 1, 2, none⟩ (.slice B1 ss1.length e1)).setCell ⟨w.heap.size + 1 + 1, 3, none⟩ (.int .i64 d2)).setCell ⟨w.heap.size + 1 + 1, 4, none⟩ (.int .i64 f2)).setCell ⟨w.heap.size + 1 + 1, 5, none⟩ (.slice B2q ss2.length e2)).setCell ⟨w.heap.size + 1 + 1, 6, none⟩ (.slice B3 st.length e3)).setCell ⟨w.heap.size + 1 + 1, 7, none⟩ (.slice B4 P.length e4)).setCell ⟨w.heap.size + 1 + 1, 8, none⟩ (.slice B5 pp.length e5)).setCell ⟨w.heap.size + 1 + 1, 9, none⟩ (.int .i64 m)) := ⟨_, rfl⟩
      have hBX : Boxy w4 wE := by rw [heE]; exact boxy
      have hBW : Below w.heap.size w wE := by rw [heE]; exact bel
      have hsE : wE.heap.size = w4.heap.size := by rw [heE]; simp [World.setCell]
      rw [← heE]
      clear heE
      exact ⟨B1, e1, B2q, e2, B3, e3, B4, e4, B5, e5, rfl, (hoW.boxy hBX).wide (Nat.le_refl _) (by omega), hBW⟩
end Go.Proofs.YtdddglihomchfaaGreat
namespace Go.Proofs.YtdddglihomchfaaGreat
open Go.ChangeShapes Go.WideShapes Go.ChangeAt Go.RowKit
set_option linter.unusedVariables false
set_option maxRecDepth 10000
def otherC (c : UInt8) : UInt8 := if c = 100 then 102 else 100
end Go.Proofs.YtdddglihomchfaaGreat
namespace Go.Proofs.YtdddglihomchfaaGreat
open Go.ChangeShapes Go.WideShapes Go.ChangeAt Go.RowKit
set_option linter.unusedVariables false
set_option maxRecDepth 10000
def doRes (D : PDraft) (s : PStep) : PDraft × Bool :=
  if (draftOk D = true ∧ D.st.length ≠ 40) ∧ (stepRes true D.d2 D.f2 D.ss2 s.K s.F s.L s.T s.I s.b s.a).2 = true then (⟨D.d1, D.f1, D.ss1, D.d2, D.f2, (stepRes true D.d2 D.f2 D.ss2 s.K s.F s.L s.T s.I s.b s.a).1, D.st ++ [s]⟩, true) else (D, false)
end Go.Proofs.YtdddglihomchfaaGreat
namespace Go.Proofs.YtdddglihomchfaaGreat
open Go.ChangeShapes Go.WideShapes Go.ChangeAt Go.RowKit
set_option linter.unusedVariables false
set_option maxRecDepth 10000
def undoRes (D : PDraft) : PDraft × Bool :=
  if draftOk D = true then match D.st.getLast? with | some s => (⟨D.d1, D.f1, D.ss1, D.d2, D.f2, (stepRes false D.d2 D.f2 D.ss2 s.K s.F s.L s.T s.I s.b s.a).1, D.st.dropLast⟩, true) | none => (D, false) else (D, false)
end Go.Proofs.YtdddglihomchfaaGreat
namespace Go.Proofs.YtdddglihomchfaaGreat
open Go.ChangeShapes Go.WideShapes Go.ChangeAt Go.RowKit
set_option linter.unusedVariables false
theorem own_setCellsG {e : TypeId} {base g n c size : Nat} : ∀ (vs : List Value) (o : Nat) (w : World) (xs : List Value), w.ownsRow base e size (.slice (some ⟨g, 0, none⟩) n c) n xs → o + vs.length ≤ n * size →
    (w.setCells g o vs).ownsRow base e size (.slice (some ⟨g, 0, none⟩) n c) n (xs.take o ++ (vs ++ xs.drop (o + vs.length))) ∧ w.grownBy (w.setCells g o vs) (some g)
  | [], o, w, xs, h, _ => by
    refine ⟨?_, World.grownBy.refl w _⟩
    simpa [World.setCells] using h
  | v :: vs, o, w, xs, h, hl => by
    simp only [List.length_cons] at hl
    have hx : xs.length = n * size := by have := h.1; omega
    have h1 := h.stored o v
    have h2 := own_setCellsG vs (o + 1) (w.setCell ⟨g, o, none⟩ v) (xs.set o v) h1.1 (by omega)
    refine ⟨?_, only_trans h1.2 h2.2⟩
    have he : (xs.set o v).take (o + 1) ++ (vs ++ (xs.set o v).drop (o + 1 + vs.length)) = xs.take o ++ ((v :: vs) ++ xs.drop (o + (v :: vs).length)) := by
      have hd : (xs.set o v).drop (o + 1 + vs.length) = xs.drop (o + (v :: vs).length) := by
        rw [List.drop_set_of_lt (by omega)]
        congr 1
        simp only [List.length_cons]; omega
      have ht : (xs.set o v).take (o + 1) = xs.take o ++ [v] := by
        rw [List.take_succ_eq_append_getElem (by rw [List.length_set]; omega), List.getElem_set_self, List.take_set_of_le (Nat.le_refl _)]
      rw [hd, ht]
      simp
    rw [← he]
    exact h2.1
theorem own_capG {w : World} {base n c size : Nat} {e : TypeId} {A : Option Addr} {xs : List Value} (h : w.ownsRow base e size (.slice A n c) n xs) : n ≤ c ∧ c ≤ 9223372036854775807 := by
  rcases h.2 with ⟨hv, h0⟩ | ⟨g', cap, cur, hv, _, _, h1, h2, _⟩
  · injection hv with _ _ e3; omega
  · injection hv with _ _ e3; subst e3; unfold maxLen at h2; exact ⟨h1, by omega⟩
theorem own_prefixG {w : World} {base n c m size : Nat} {e : TypeId} {a : Addr} {xs : List Value} (h : w.ownsRow base e size (.slice (some a) n c) n xs) (hm : m ≤ n) :
    w.ownsRow base e size (.slice (some a) m c) m (xs.take (m * size)) := by
  have hx := h.1
  have hmn : m * size ≤ n * size := Nat.mul_le_mul_right _ hm
  refine ⟨by rw [List.length_take]; omega, ?_⟩
  rcases h.2 with ⟨hv, hn⟩ | ⟨g, cap, cur, hv, hb, hg, hnc, hcm, hcs, ht⟩
  · injection hv with e1; cases e1
  · injection hv with e1 e2 e3
    subst e3
    refine .inr ⟨g, c, cur, by rw [e1], hb, hg, by omega, hcm, hcs, ?_⟩
    rw [← ht, List.take_take]
    congr 1
    omega
theorem own_block {w : World} {base g n c size : Nat} {e : TypeId} {xs : List Value} (h : w.ownsRow base e size (.slice (some ⟨g, 0, none⟩) n c) n xs) : ∃ cur : Array Value, w.heap[g]? = some (.cells cur e (0, 0)) ∧ cur.size = c * size ∧ c ≤ maxLen ∧ base ≤ g := by
  rcases h.2 with ⟨hv, hn⟩ | ⟨g', cap, cur, hv, hb, hg, hnc, hcm, hcs, ht⟩
  · injection hv with e1; cases e1
  · injection hv with e1 e2 e3
    injection e1 with e1
    injection e1 with e1
    subst e1 e3
    exact ⟨cur, hg, hcs, hcm, hb⟩
end Go.Proofs.YtdddglihomchfaaGreat
namespace Go.Proofs.YtdddglihomchfaaGreat
open Go.ChangeShapes Go.WideShapes Go.ChangeAt Go.RowKit
set_option linter.unusedVariables false
set_option maxRecDepth 10000
def idxNm (P : List PItem) (name : ByteArray) : Option Nat := P.findIdx? fun x => decide (x.nm = name)
def noNm (P : List PItem) (name : ByteArray) (j : Nat) : Prop := ∀ i, i < j → ∀ x, P[i]? = some x → x.nm ≠ name
theorem noNm_zero (P : List PItem) (name : ByteArray) : noNm P name 0 := fun i hi => absurd hi (by omega)
theorem noNm_succ {P : List PItem} {name : ByteArray} {j : Nat} {x : PItem} (h : noNm P name j) (hx : P[j]? = some x) (hn : x.nm ≠ name) : noNm P name (j + 1) := by
  intro i hi y hy
  rcases Nat.lt_or_ge i j with h1 | h1
  · exact h i h1 y hy
  · have : i = j := by omega
    subst this
    rw [hx] at hy; injection hy with hy; subst hy; exact hn
theorem idxNm_some {P : List PItem} {name : ByteArray} {j : Nat} {x : PItem} (h : noNm P name j) (hx : P[j]? = some x) (hn : x.nm = name) : idxNm P name = some j := by
  unfold idxNm
  obtain ⟨hj, rfl⟩ := List.getElem?_eq_some_iff.1 hx
  rw [List.findIdx?_eq_some_iff_getElem]
  refine ⟨hj, by simpa using hn, fun i hi => ?_⟩
  have := h i hi _ (List.getElem?_eq_getElem (by omega))
  simpa using this
theorem idxNm_none {P : List PItem} {name : ByteArray} (h : noNm P name P.length) : idxNm P name = none := by
  unfold idxNm
  rw [List.findIdx?_eq_none_iff]
  intro x hx
  obtain ⟨i, hi, rfl⟩ := List.getElem_of_mem hx
  have := h i hi _ (List.getElem?_eq_getElem hi)
  simpa using this
def idxI (P : List PItem) (name : ByteArray) : Int := match idxNm P name with | some k => k | none => -1
set_option maxHeartbeats 400000 in
theorem c_itemNamed1 (nm name : ByteArray) (d f : Int) (A : Option Addr) (n c g : Nat) (w : World) (hg : w.cell? ⟨g, 0, none⟩ = some (.string name)) (hlt : g < w.heap.size) :
    Calls Tryz.prog 176 #[.agg #[.string nm, .int .i64 d, .int .i64 f, .slice A n c], .pointer (some ⟨g, 0, none⟩)] w fun e w' => e = .returned (.bool (decide (nm = name))) ∧ Below w.heap.size w w' := by
  by_cases h : nm = name
  · have hbq := beq_toList_true h
    have HD : Hid (decide (nm = name) = true) := by unfold Hid; simp [h]
    clear h
    go_enter Tryz.func176, Tryz.ntmps176
    go_wp2
    go_ret
    exact ⟨ret_bool HD.out.symm, bel⟩
  · have hbq := beq_toList_false h
    have HD : Hid (decide (nm = name) = false) := by unfold Hid; simp [h]
    clear h
    go_enter Tryz.func176, Tryz.ntmps176
    go_wp2
    go_ret
    exact ⟨ret_bool HD.out.symm, bel⟩
set_option maxHeartbeats 1600000 in
theorem idxFunc (name : ByteArray) (g : Nat) (P : List PItem) (B : Nat) (A : Option Addr) (n c : Nat) (L : List RItem) (w : World) (hp : plI L = P) (hS : Items w B A n L) (hB : B ≤ w.heap.size) (hg : w.cell? ⟨g, 0, none⟩ = some (.string name)) (hlt : g < w.heap.size) :
    Calls Tryz.prog 175 #[.slice A n c, .func (.func 176) #[] #[.pointer (some ⟨g, 0, none⟩)]] w fun e w' => e = .returned (.int .i64 (idxI P name)) ∧ Below w.heap.size w w' := by
  have hn := hS.nb
  have hl : P.length = n := by rw [← hp, plI_len, hS.len]
  have HL := Lib.hid hl
  have HP := Lib.hid hp
  clear hl hp
  go_enter Tryz.func175, Tryz.ntmps175
  go_wp2
  go_loopw [5, 8] (fun x i wr => ∃ j : Nat, j ≤ n ∧ i = .int .i64 j ∧ Hid (noNm P name j) ∧ Below w.heap.size w wr) (fun _ i _ => n - (intOf i).toNat)
  case atStart => exact ⟨0, Nat.zero_le _, rfl, noNm_zero _ _, Below.refl _ _⟩
  case round =>
    obtain ⟨j, hj, rfl, HN, hb⟩ := hrel
    have hzr := hb.size
    by_cases hltn : j < n
    · obtain ⟨hk1, ad, rfl, hab, hc0, hc1, hc2, hc3, hss, hnm⟩ := (hS.below (hb.mono hB)).at_ hltn
      have HX := Lib.hid (show P[j]? = some L[j].x by rw [← HP.out]; exact plI_at hk1)
      have hgr : wr.cell? ⟨g, 0, none⟩ = some (.string name) := by rw [hb.cell (p := ⟨g, 0, none⟩) hlt]; exact hg
      have hgl : g < wr.heap.size := by omega
      generalize L[j] = r at *
      have hcon := c_itemNamed1 r.x.nm name r.x.d r.x.f r.A r.x.ss.length r.c g wr hgr hgl
      by_cases hq : r.x.nm = name
      · have HF : Hid (idxI P name = j) := by unfold Hid idxI; rw [idxNm_some HN.out HX.out hq]
        rw [show decide (r.x.nm = name) = true by simp [hq]] at hcon
        have HC := hide hcon
        clear hq hcon
        go_wp2_with (go_at_call 176; refine (unhide HC).mono ?_; rintro e w1 ⟨rfl, hb1⟩)
        go_ret
        exact ⟨ret_int HF.out.symm, bel⟩
      · have HS := Lib.hid (noNm_succ HN.out HX.out hq)
        rw [show decide (r.x.nm = name) = false by simp [hq]] at hcon
        have HC := hide hcon
        clear hq hcon
        go_wp2_with (go_at_call 176; refine (unhide HC).mono ?_; rintro e w1 ⟨rfl, hb1⟩)
        go_roundw
        case rel => exact ⟨j + 1, by omega, by go_num, HS.out, bel⟩
        case measure => simp [intOf]; omega
    · have hjn : j = n := by omega
      have HF : Hid (idxI P name = -1) := by unfold Hid idxI; rw [idxNm_none (by rw [HL.out, ← hjn]; exact HN.out)]
      clear hjn
      go_wp2
      go_ret
      exact ⟨ret_int HF.out.symm, hb⟩
set_option maxHeartbeats 800000 in
theorem i_itemNamed (name : ByteArray) (P : List PItem) (B : Nat) (A : Option Addr) (n c : Nat) (L : List RItem) (w : World) (hp : plI L = P) (hS : Items w B A n L) (hB : B ≤ w.heap.size) :
    Calls Tryz.prog 149 #[.slice A n c, .string name] w fun e w' => e = .returned (.int .i64 (idxI P name)) ∧ Below w.heap.size w w' := by
  have hmf : ∀ (fn : Fn) (first cap : Array Value) (w : World), (Instr.makeFunc fn first cap).run Tryz.prog w = .ok (.func fn first cap) w := fun _ _ _ _ => rfl
  have hcon := idxFunc name w.heap.size P B A n c L (w.alloc (.cells #[.string name] 9)) hp (hS.alloc hB _) (by simp; omega) (by rw [World.cell?_alloc_mark]; rfl) (by simp)
  have HC := hide hcon
  clear hcon
  go_enter Tryz.func149, Tryz.ntmps149
  go_wp2_with (go_at_call 175; refine (unhide HC).mono ?_; rintro e w1 ⟨rfl, hb1⟩)
  go_ret
  exact ⟨rfl, bel⟩
def named (P : List PItem) (name : ByteArray) : (Int × Int) × (List ByteArray × Bool) :=
  if catOk P = true then match idxNm P name with | some k => (match P[k]? with | some x => ((x.d, x.f), (x.ss, true)) | none => ((0, 0), ([], false))) | none => ((0, 0), ([], false)) else ((0, 0), ([], false))
end Go.Proofs.YtdddglihomchfaaGreat
namespace Go.Proofs.YtdddglihomchfaaGreat
open Go.ChangeShapes Go.WideShapes Go.ChangeAt Go.RowKit Go.Lib
set_option linter.unusedVariables false
set_option maxRecDepth 10000
theorem flat_drop {α : Type} {f : α → List Value} {k : Nat} (hf : ∀ x, (f x).length = k) (l : List α) (i : Nat) (hi : i ≤ l.length) : (l.flatMap f).drop (i * k) = (l.drop i).flatMap f := by
  have h1 : l.flatMap f = (l.take i).flatMap f ++ (l.drop i).flatMap f := by rw [← List.flatMap_append, List.take_append_drop]
  have h2 : ((l.take i).flatMap f).length = i * k := by rw [flat_len hf, List.length_take, Nat.min_eq_left hi]
  rw [h1, ← h2, List.drop_left]
theorem run_clear_sliceG {P : Program} (w : World) (t e ty : TypeId) (z : Value) (ZS : List Value) (ht : P.underlying t = some (.slice e)) (hv : ∀ w, (zeroValue e).run P w = .ok z w) (b o n c : Nat) (hn : 0 < n)
    (hz : (Builtin.zeroCells z.cells n).toList = ZS) (h1 : ∀ v ∈ ZS, v.oneCell' = true)
    (hc : ∀ j, j < ZS.length → (w.cell? ⟨b, o + j, none⟩).isSome = true) (hf : ∀ j, j < ZS.length → w.frozen? ⟨b, o + j, none⟩ = false) :
    (Builtin.clear_ #[t] ty #[.slice (some ⟨b, o, none⟩) n c]).run P w = .ok (.tuple #[]) (w.setCells b o ZS) := by
  have hst := run_storeCells_cells (P := P) b o ZS 0 w (by simpa using hc) (by simpa using hf) h1
  simp only [Nat.add_zero] at hst
  obtain ⟨m, rfl⟩ : ∃ m, n = m + 1 := ⟨n - 1, by omega⟩
  simp [Builtin.clear_, run_underlying ht, hv, hz, hst]
theorem lay_del {xs zs : List Value} {k n size : Nat} (hx : xs.length = n * size) (hk : k < n) :
    (((xs.take (k * size) ++ (xs.drop ((k + 1) * size) ++ xs.drop (k * size + (xs.drop ((k + 1) * size)).length))).take ((n - 1) * size)) ++ zs).take ((n - 1) * size) = xs.take (k * size) ++ xs.drop ((k + 1) * size) := by
  have h1 : (k + 1) * size ≤ n * size := Nat.mul_le_mul_right _ hk
  have h2 : (k + 1) * size = k * size + size := by rw [Nat.succ_mul]
  have h3 : n * size = (n - 1) * size + size := by rw [← Nat.succ_mul]; congr 1; omega
  have hl : (xs.take (k * size) ++ xs.drop ((k + 1) * size)).length = (n - 1) * size := by rw [List.length_append, List.length_take, List.length_drop]; omega
  have hT : (xs.take (k * size) ++ (xs.drop ((k + 1) * size) ++ xs.drop (k * size + (xs.drop ((k + 1) * size)).length))).take ((n - 1) * size) = xs.take (k * size) ++ xs.drop ((k + 1) * size) := by
    rw [← List.append_assoc, List.take_append_of_le_length (Nat.le_of_eq hl.symm), List.take_of_length_le (Nat.le_of_eq hl)]
  rw [hT, List.take_append_of_le_length (Nat.le_of_eq hl.symm), List.take_of_length_le (Nat.le_of_eq hl)]
theorem OwnItems.erase {w w' : World} {lo n c m c' : Nat} {A A' : Option Addr} {L L' : List RItem} (ho : OwnItems w lo w.heap.size A n c L)
    (hg : w.grownBy w' (Value.slice A n c).ownBlock) (h2 : w'.ownsRow lo 132 4 (.slice A' m c') m (L'.flatMap itemCells)) (hs : List.Sublist L' L) :
    OwnItems w' lo w'.heap.size A' m c' L' := by
  refine ⟨h2, fun k hk => (h2.lt k hk).2, fun s hs' => ?_, ho.apart.sublist hs⟩
  have hq := ho.in_ s (hs.subset hs')
  exact ⟨own_grown hq.row hg (fun k hk => by
      intro he
      exact own_ne_type hq.row ho.row (by decide) k hk he), fun k hk => by have h1 := hq.top k hk; have h2 := hg.size; omega⟩
theorem sub_erase {α : Type} (L : List α) (k : Nat) : List.Sublist (L.take k ++ L.drop (k + 1)) L := by
  have h : L.take k ++ L.drop k = L := List.take_append_drop k L
  have h2 : List.Sublist (L.drop (k + 1)) (L.drop k) := by
    rw [show k + 1 = k + 1 from rfl, ← List.drop_drop]; exact List.drop_sublist _ _
  calc List.Sublist (L.take k ++ L.drop (k + 1)) (L.take k ++ L.drop k) := (List.Sublist.refl _).append h2
    _ = L := h
set_option maxHeartbeats 4000000 in
set_option maxRecDepth 1000000 in
theorem del_item (base g n c k j : Nat) (L : List RItem) (w : World) (hO : w.ownsRow base 132 4 (.slice (some ⟨g, 0, none⟩) n c) n (L.flatMap itemCells)) (hk : k < n) (hj : j = k + 1) (hn : n ≤ 16777216) :
    Calls Tryz.prog 150 #[.slice (some ⟨g, 0, none⟩) n c, .int .i64 k, .int .i64 j] w fun e w' => e = .returned (.slice (some ⟨g, 0, none⟩) (n - 1) c) ∧
      w'.ownsRow base 132 4 (.slice (some ⟨g, 0, none⟩) (n - 1) c) (n - 1) ((L.take k ++ L.drop j).flatMap itemCells) ∧ w.grownBy w' (some g) := by
  have hxl : (L.flatMap itemCells).length = n * 4 := hO.1
  have hLl : L.length = n := by rw [flat_len itemCells_len] at hxl; omega
  obtain ⟨hnc, hc63⟩ := own_capG hO
  obtain ⟨cur, hblk, hcs, hcm, hbg⟩ := own_block hO
  have hglt := blk_lt hblk
  have hdrop := flat_drop itemCells_len L j (by omega)
  have htake := flat_take itemCells_len L k
  have hone := itemCells_one (L.drop j)
  rw [List.flatMap_append, ← htake, ← hdrop]
  rw [← hdrop] at hone
  clear hdrop htake
  generalize L.flatMap itemCells = xs at *
  obtain ⟨news, hnews⟩ : ∃ news, news = xs.drop (j * 4) := ⟨_, rfl⟩
  have hlen : news.length = (n - j) * 4 := by rw [hnews, List.length_drop]; omega
  have hget : ∀ t u, news[t]? = some u → w.drew.cell? ⟨g, j * 4 + t, none⟩ = some u := by
    intro t u hu
    have ht := (List.getElem?_eq_some_iff.1 hu).1
    rw [hnews, List.getElem?_drop] at hu
    exact (hO.cellAt _ (by omega)).trans hu
  obtain ⟨AD, hA, hsrc⟩ : ∃ AD : Addr, (if c = j then some (⟨g, 0, none⟩ : Addr) else some ⟨g, j * 4, none⟩) = some AD ∧ Hid (∀ t u, news[t]? = some u → w.drew.cell? (AD.add t) = some u) := by
    by_cases h : c = j
    · refine ⟨⟨g, 0, none⟩, by simp [h], fun t u hu => ?_⟩
      have h0 : news.length = 0 := by rw [hlen]; omega
      rw [List.length_eq_zero_iff.1 h0] at hu
      simp at hu
    · refine ⟨⟨g, j * 4, none⟩, by simp [h], fun t u hu => ?_⟩
      rw [Addr.add_lit]
      exact hget t u hu
  have s1 : Hid (news.length = (n - j) * 4) := hlen
  have s2 : Hid (∀ u ∈ news, u.oneCell' = true) := by rw [hnews]; exact hone
  have s3 : Hid (∀ t, t < news.length → (w.drew.cell? ⟨g, 0 + k * 4 + t, none⟩).isSome = true ∧ w.drew.frozen? ⟨g, 0 + k * 4 + t, none⟩ = false) := by
    intro t ht
    refine ⟨?_, hO.frozenAt _⟩
    show (w.cell? _).isSome = true
    rw [hO.cellAt _ (by omega), List.getElem?_eq_getElem (by omega)]; rfl
  obtain ⟨W1, hW1⟩ : ∃ W1, W1 = w.drew.setCells g (0 + k * 4) news := ⟨_, rfl⟩
  have h1 := own_setCellsG news (0 + k * 4) w.drew xs hO.drew (by omega)
  rw [← hW1] at h1
  have h2 := own_setCellsG [.string ByteArray.empty, .int .i64 0, .int .i64 0, .slice none 0 0] ((n - 1) * 4) W1 _ h1.1 (by simp; omega)
  have hcl : ∀ ty, (Builtin.clear_ #[38] ty #[.slice (some ⟨g, (k + (n - j)) * 4, none⟩) (n - (k + (n - j))) (c - (k + (n - j)))]).run Tryz.prog W1 = .ok (.tuple #[]) (W1.setCells g ((n - 1) * 4) [.string ByteArray.empty, .int .i64 0, .int .i64 0, .slice none 0 0]) := by
    intro ty
    rw [show k + (n - j) = n - 1 by omega, show n - (n - 1) = 1 by omega]
    refine run_clear_sliceG W1 _ _ ty _ _ Tryz.underlying38 Tryz.zeroValue132 g _ 1 _ (by omega) (by kernel_rfl) (by intro v hv; simp at hv; rcases hv with rfl | rfl | rfl | rfl <;> rfl) (fun j hj => ?_) (fun j _ => h1.1.frozenAt _)
    simp at hj
    rw [h1.1.cellAt _ (by omega), List.getElem?_eq_getElem (by have := h1.1.1; omega)]; rfl
  have hgr : w.grownBy (W1.setCells g ((n - 1) * 4) [.string ByteArray.empty, .int .i64 0, .int .i64 0, .slice none 0 0]) (some g) := only_trans (only_trans (grown_drewN w 1 _) h1.2) h2.2
  have hrow := own_prefixG h2.1 (m := n - 1) (by omega)
  rw [hnews, hj, Nat.zero_add, lay_del hxl hk, ← hj, ← hnews] at hrow
  obtain ⟨i0, hi0, hz0, hz1i, hz2⟩ := info_parts info_itemCells
  have hjc : j ≤ c := by omega
  have hic : k ≤ c := by omega
  have hjn : j ≤ n := by omega
  have hkj : k ≤ j := by omega
  have hkj2 : ¬ k = j := by omega
  have hsum : k + (n - j) = n - 1 := by omega
  have mixed : Tryz.prog.follows Departure.mixedOrders = true := by kernel_rfl
  have hW : Hid (W1 = w.drew.setCells g (0 + k * 4) news) := hW1
  have HROW := Lib.hid hrow
  have HGR := Lib.hid hgr
  have HSUM := Lib.hid hsum
  clear hW1 h1 h2 hget hone hxl hLl hlen hcs hblk hrow hgr hO hj hsum
  go_enter Tryz.func150, Tryz.ntmps150
  go_wp2_with fail
  go_region_law_o (refine step_append_room rfl (.tmp 22) (.tmp 25) 38 rfl 132 i0 4 Tryz.underlying38 hi0 hz1i g 0 k c (by simp [Act.eval, Act.put]) AD (n - j) (c - j) news (by simp [Act.eval, Act.put]) s1.out hsrc.out s2.out (by omega) s3.out ?_; rw [← hW.out])
  go_wp2
  go_ret
  refine ⟨?_, ?_, ?_⟩
  · rw [← HSUM.out]; rfl
  · rw [← hnews]; exact HROW.out
  · exact HGR.out
end Go.Proofs.YtdddglihomchfaaGreat
namespace Go.Proofs.YtdddglihomchfaaGreat
open Go.ChangeShapes Go.WideShapes Go.ChangeAt Go.RowKit
set_option linter.unusedVariables false
set_option maxRecDepth 10000
def dropped (P : List PItem) (name : ByteArray) : List PItem × Bool :=
  if catOk P = true then match idxNm P name with | some k => (P.take k ++ P.drop (k + 1), true) | none => (P, false) else (P, false)
theorem dropped_no1 {P : List PItem} {name : ByteArray} (h : catOk P = false) : dropped P name = (P, false) := by unfold dropped; rw [h]; simp
theorem dropped_no2 {P : List PItem} {name : ByteArray} (h : idxNm P name = none) : dropped P name = (P, false) := by unfold dropped; rw [h]; split <;> rfl
theorem dropped_yes {P : List PItem} {name : ByteArray} {k : Nat} (h : catOk P = true) (h2 : idxNm P name = some k) : dropped P name = (P.take k ++ P.drop (k + 1), true) := by unfold dropped; rw [h, if_pos rfl, h2]
theorem dropped_ok (P : List PItem) (name : ByteArray) (m : Nat) (h : OkItems P m) : OkItems (dropped P name).1 m := by
  unfold dropped
  split
  · split
    · rename_i k _
      have hs := sub_erase P k
      exact ⟨Nat.le_trans hs.length_le h.1, fun x hx => h.2 x (hs.subset hx)⟩
    · exact h
  · exact h
def UItemsB (P : List PItem) (b : Bool) (w : World) (e : Ending) (w' : World) : Prop :=
  ∃ A c L, e = .returned (.tuple #[.slice A P.length c, .bool b]) ∧ plI L = P ∧ OwnItems w' w.heap.size w'.heap.size A P.length c L ∧ Below w.heap.size w w'
theorem uitemsB_cast {P : List PItem} {b : Bool} {q : List PItem × Bool} {w w' : World} {e : Ending} (h : q = (P, b)) (hu : UItemsB P b w e w') : UItemsB q.1 q.2 w e w' := by subst h; exact hu
set_option maxHeartbeats 3200000 in
theorem i_DropItem (name : ByteArray) (P : List PItem) (B : Nat) (A : Option Addr) (n c : Nat) (L : List RItem) (w : World) (hp : plI L = P) (hS : Items w B A n L) (hB : B ≤ w.heap.size) :
    Calls Tryz.prog 99 #[.slice A n c, .string name] w (UItemsB (dropped P name).1 (dropped P name).2 w) := by
  have hn := hS.nb
  have hix := fun (W : World) (hW : Below w.heap.size w W) => i_itemNamed name P B A n c L W hp (hS.below (hW.mono hB)) (Nat.le_trans hB hW.size)
  have hco := fun (W : World) (hW : Below w.heap.size w W) => i_CatalogOk P B A n c L W hp (hS.below (hW.mono hB)) (Nat.le_trans hB hW.size)
  have hcp := fun (W : World) (hW : Below w.heap.size w W) => u_copyItems P B A n c L W hp (hS.below (hW.mono hB)) (Nat.le_trans hB hW.size)
  have HCP := hide hcp
  clear hcp
  cases hck : catOk P
  · have HR := Lib.hid (dropped_no1 (name := name) hck)
    simp only [hck] at hco
    have HIX := hide hix
    have HCO := hide hco
    clear hix hco hck
    go_enter Tryz.func99, Tryz.ntmps99
    go_wp2_with (first | (go_at_call 149; refine (unhide HIX _ (by exact bel)).mono ?_; rintro e w1 ⟨rfl, hb1⟩; obtain ⟨hcb1, hfb1⟩ := bcell hb1; (have hbw1 : Below w.heap.size w w1 := bel)) | (go_at_call 70; refine (unhide HCO _ hbw1).mono ?_; rintro e w2 ⟨rfl, hb2⟩; obtain ⟨hcb2, hfb2⟩ := bcell hb2; (have hbw2 : Below w.heap.size w w2 := hbw1.trans (hb2.mono hbw1.size))) | (go_at_call 145; refine (unhide HCP _ hbw2).mono ?_; rintro e w3 ⟨A3, c3, L3, rfl, hp3, ho3, hb3⟩; obtain ⟨hcb3, hfb3⟩ := bcell hb3; (have hbw3 : Below w.heap.size w w3 := hbw2.trans (hb3.mono hbw2.size))))
    refine bodyPost_ret (v := .tuple #[.slice A3 P.length c3, .bool false]) (by simp [results, Tryz.results99, go_sem, *]) rfl ?_
    exact uitemsB_cast HR.out ⟨A3, c3, L3, rfl, hp3, ho3.wide hbw2.size (Nat.le_refl _), hbw3⟩
  · cases hk : idxNm P name with
    | none =>
      have HR := Lib.hid (dropped_no2 hk)
      have hI : idxI P name = -1 := by unfold idxI; rw [hk]
      simp only [hck] at hco
      simp only [hI] at hix
      have HIX := hide hix
      have HCO := hide hco
      clear hix hco hck hk hI
      go_enter Tryz.func99, Tryz.ntmps99
      go_wp2_with (first | (go_at_call 149; refine (unhide HIX _ (by exact bel)).mono ?_; rintro e w1 ⟨rfl, hb1⟩; obtain ⟨hcb1, hfb1⟩ := bcell hb1; (have hbw1 : Below w.heap.size w w1 := bel)) | (go_at_call 70; refine (unhide HCO _ hbw1).mono ?_; rintro e w2 ⟨rfl, hb2⟩; obtain ⟨hcb2, hfb2⟩ := bcell hb2; (have hbw2 : Below w.heap.size w w2 := hbw1.trans (hb2.mono hbw1.size))) | (go_at_call 145; refine (unhide HCP _ hbw2).mono ?_; rintro e w3 ⟨A3, c3, L3, rfl, hp3, ho3, hb3⟩; obtain ⟨hcb3, hfb3⟩ := bcell hb3; (have hbw3 : Below w.heap.size w w3 := hbw2.trans (hb3.mono hbw2.size))))
      refine bodyPost_ret (v := .tuple #[.slice A3 P.length c3, .bool false]) (by simp [results, Tryz.results99, go_sem, *]) rfl ?_
      exact uitemsB_cast HR.out ⟨A3, c3, L3, rfl, hp3, ho3.wide hbw2.size (Nat.le_refl _), hbw3⟩
    | some k =>
      have hkP : k < P.length := by
        unfold idxNm at hk
        exact (List.findIdx?_eq_some_iff_getElem.1 hk).1
      have hl : P.length = n := by rw [← hp, plI_len, hS.len]
      have hI : idxI P name = k := by unfold idxI; rw [hk]
      have HR := Lib.hid (dropped_yes hck hk)
      have hql : (P.take k ++ P.drop (k + 1)).length = P.length - 1 := by rw [List.length_append, List.length_take, List.length_drop]; omega
      have HQL := Lib.hid hql
      have HKP := Lib.hid hkP
      have hPn : P.length ≤ 16777216 := by omega
      have HPN := Lib.hid hPn
      have hkn : k < 16777216 := by omega
      simp only [hck] at hco
      simp only [hI] at hix
      have HIX := hide hix
      have HCO := hide hco
      clear hix hco hck hk hI hkP hl hp hql hPn
      go_enter Tryz.func99, Tryz.ntmps99
      go_wp2_with (first | (go_at_call 149; refine (unhide HIX _ (by exact bel)).mono ?_; rintro e w1 ⟨rfl, hb1⟩; obtain ⟨hcb1, hfb1⟩ := bcell hb1; (have hbw1 : Below w.heap.size w w1 := bel)) | (go_at_call 70; refine (unhide HCO _ hbw1).mono ?_; rintro e w2 ⟨rfl, hb2⟩; obtain ⟨hcb2, hfb2⟩ := bcell hb2; (have hbw2 : Below w.heap.size w w2 := hbw1.trans (hb2.mono hbw1.size))) | (go_at_call 145; refine (unhide HCP _ hbw2).mono ?_; rintro e w3 ⟨A3, c3, L3, rfl, hp3, ho3, hb3⟩; obtain ⟨hcb3, hfb3⟩ := bcell hb3; (have hbw3 : Below w.heap.size w w3 := hbw2.trans (hb3.mono hbw2.size)); obtain ⟨g, cap, hv, hbg, hglt⟩ := ho3.row.form (by have := HKP.out; omega); (have hA : A3 = some ⟨g, 0, none⟩ := (by injection hv)); subst hA; clear hv; replace ho3 := hide ho3; replace hp3 := hide hp3) | (go_at_call 150; refine (del_item _ g _ _ k (k + 1) L3 _ (unhide ho3).row HKP.out rfl HPN.out).mono ?_; rintro e w4 ⟨rfl, hr4, hg4⟩))
      have ho3 := unhide ho3
      have hp3 := unhide hp3
      have hb4 : Below w3.heap.size w3 w3 := Below.refl _ _
      refine bodyPost_ret (v := .tuple #[.slice (some ⟨g, 0, none⟩) (P.length - 1) c3, .bool true]) (by simp [results, Tryz.results99, go_sem, *]) rfl ?_
      refine uitemsB_cast HR.out ⟨some ⟨g, 0, none⟩, c3, L3.take k ++ L3.drop (k + 1), by rw [HQL.out], ?_, ?_, ?_⟩
      · rw [← hp3]; simp [plI, List.map_take, List.map_drop]
      · rw [HQL.out]
        have h4 := ho3.erase hg4 hr4 (sub_erase L3 k)
        exact h4.wide hbw2.size (Nat.le_refl _)
      · exact hbw2.trans ((hb3.trans (grown_below hg4 (by intro q hq; injection hq with hq; omega) (by have := hb3.size; omega))).mono hbw2.size)
end Go.Proofs.YtdddglihomchfaaGreat
namespace Go.Proofs.YtdddglihomchfaaGreat
open Go.ChangeShapes Go.WideShapes Go.ChangeAt Go.RowKit
set_option linter.unusedVariables false
set_option maxRecDepth 10000
def nmLt (a b : ByteArray) : Bool := Op.bytesLess a.toList b.toList
def posOf : List PItem → ByteArray → Nat
  | [], _ => 0
  | x :: l, nm => if nmLt x.nm nm = true then posOf l nm + 1 else 0
def allLt (P : List PItem) (nm : ByteArray) (j : Nat) : Prop := ∀ i, i < j → ∀ x, P[i]? = some x → nmLt x.nm nm = true
def insP (P : List PItem) (x : PItem) (j : Nat) : List PItem := P.take j ++ x :: P.drop j
def added (P : List PItem) (x : PItem) : List PItem × Bool :=
  if catOk P = true then if catOk (insP P x (posOf P x.nm)) = true then (insP P x (posOf P x.nm), true) else (P, false) else (P, false)
end Go.Proofs.YtdddglihomchfaaGreat
namespace Go.Proofs.YtdddglihomchfaaGreat
open Go.ChangeShapes Go.WideShapes Go.ChangeAt Go.RowKit
set_option linter.unusedVariables false
set_option linter.unusedSimpArgs false
set_option maxRecDepth 10000
theorem bytesLess_trans : ∀ {a b c : List UInt8}, Op.bytesLess a b = true → Op.bytesLess b c = true → Op.bytesLess a c = true
  | [], [], _, h, _ => by simp [Op.bytesLess] at h
  | [], _ :: _, [], _, h => by simp [Op.bytesLess] at h
  | [], _ :: _, _ :: _, _, _ => by simp [Op.bytesLess]
  | _ :: _, [], _, h, _ => by simp [Op.bytesLess] at h
  | _ :: _, _ :: _, [], _, h => by simp [Op.bytesLess] at h
  | a :: x, b :: y, c :: z, h1, h2 => by
    simp only [Op.bytesLess, Bool.or_eq_true, Bool.and_eq_true, decide_eq_true_eq, beq_iff_eq] at h1 h2 ⊢
    rcases h1 with h1 | ⟨rfl, h1⟩
    · rcases h2 with h2 | ⟨rfl, h2⟩
      · exact .inl (UInt8.lt_trans h1 h2)
      · exact .inl h1
    · rcases h2 with h2 | ⟨rfl, h2⟩
      · exact .inl h2
      · exact .inr ⟨rfl, bytesLess_trans h1 h2⟩
theorem bytesLess_total : ∀ (a b : List UInt8), Op.bytesLess a b = false → a ≠ b → Op.bytesLess b a = true
  | [], [], _, h => absurd rfl h
  | [], _ :: _, h, _ => by simp [Op.bytesLess] at h
  | _ :: _, [], _, _ => by simp [Op.bytesLess]
  | a :: x, b :: y, h, hne => by
    simp only [Op.bytesLess, Bool.or_eq_false_iff, Bool.and_eq_false_iff, decide_eq_false_iff_not, beq_eq_false_iff_ne] at h
    simp only [Op.bytesLess, Bool.or_eq_true, Bool.and_eq_true, decide_eq_true_eq, beq_iff_eq]
    by_cases hab : b < a
    · exact .inl hab
    · have hba : a = b := UInt8.le_antisymm (UInt8.not_lt.1 hab) (UInt8.not_lt.1 h.1)
      subst hba
      refine .inr ⟨rfl, bytesLess_total x y ?_ (fun e => hne (by rw [e]))⟩
      rcases h.2 with h2 | h2
      · exact absurd rfl h2
      · exact h2
theorem bytesLess_irrefl : ∀ (a : List UInt8), Op.bytesLess a a = false
  | [] => rfl
  | a :: x => by simp [Op.bytesLess, UInt8.lt_irrefl, bytesLess_irrefl x]
theorem nmLe_not {a b : ByteArray} : nmLe a b = false ↔ Op.bytesLess b.toList a.toList = true := by
  unfold nmLe
  simp only [Bool.or_eq_false_iff, beq_eq_false_iff_ne]
  constructor
  · rintro ⟨h1, h2⟩; exact bytesLess_total _ _ h1 h2
  · intro h
    refine ⟨?_, fun e => ?_⟩
    · cases h2 : Op.bytesLess a.toList b.toList
      · rfl
      · have := bytesLess_trans h h2
        rw [bytesLess_irrefl] at this; cases this
    · rw [e, bytesLess_irrefl] at h; cases h
theorem catOk_iff {P : List PItem} : catOk P = true ↔ P.length ≤ 20 ∧ (∀ x ∈ P, nameOk x.nm = true ∧ cardOk x.d x.f x.ss = true) ∧ P.Pairwise (fun a b => Op.bytesLess a.nm.toList b.nm.toList = true) := by
  unfold catOk
  simp only [Bool.and_eq_true, List.all_eq_true, List.mem_range, decide_eq_true_eq]
  have key : ∀ i, (hi : i < P.length) → (itGood P i = true ↔ (nameOk P[i].nm = true ∧ cardOk P[i].d P[i].f P[i].ss = true) ∧ (∀ j, (hj : j + 1 = i) → Op.bytesLess (P[j]'(by omega)).nm.toList P[i].nm.toList = true)) := by
    intro i hi
    cases i with
    | zero =>
      rw [itGood_0 (List.getElem?_eq_getElem hi)]
      simp only [Bool.and_eq_true]
      exact ⟨fun h => ⟨h, fun j hj => by omega⟩, fun h => h.1⟩
    | succ k =>
      rw [itGood_s (List.getElem?_eq_getElem hi) (List.getElem?_eq_getElem (by omega))]
      simp only [Bool.and_eq_true, Bool.not_eq_true', nmLe_not]
      exact ⟨fun h => ⟨h.1, fun j hj => by have : j = k := by omega
                                           subst this; exact h.2⟩, fun h => ⟨h.1, h.2 k rfl⟩⟩
  constructor
  · rintro ⟨h1, h2⟩
    refine ⟨h2, fun x hx => ?_, ?_⟩
    · obtain ⟨i, hi, rfl⟩ := List.getElem_of_mem hx
      exact ((key i hi).1 (h1 i hi)).1
    · rw [List.pairwise_iff_getElem]
      have hstep : ∀ i, (hi : i + 1 < P.length) → Op.bytesLess P[i].nm.toList P[i + 1].nm.toList = true := fun i hi => ((key (i + 1) hi).1 (h1 (i + 1) hi)).2 i rfl
      intro i j hi hj hij
      induction j with
      | zero => omega
      | succ j ih =>
        rcases Nat.lt_or_ge i j with h3 | h3
        · exact bytesLess_trans (ih (by omega) h3) (hstep j hj)
        · have : i = j := by omega
          subst this
          exact hstep i hj
  · rintro ⟨h1, h2, h3⟩
    refine ⟨fun i hi => (key i hi).2 ⟨h2 _ (List.getElem_mem hi), fun j hj => ?_⟩, h1⟩
    rw [List.pairwise_iff_getElem] at h3
    exact h3 j i (by omega) hi (by omega)
theorem sublist_catOk {P Q : List PItem} (h : catOk P = true) (hs : List.Sublist Q P) : catOk Q = true := by
  rw [catOk_iff] at *
  exact ⟨Nat.le_trans hs.length_le h.1, fun x hx => h.2.1 x (hs.subset hx), h.2.2.sublist hs⟩
theorem dropped_cat {P : List PItem} {nm : ByteArray} (h : (dropped P nm).2 = true) : catOk (dropped P nm).1 = true := by
  cases hc : catOk P with
  | false => rw [dropped_no1 hc] at h; cases h
  | true =>
    cases hk : idxNm P nm with
    | none => rw [dropped_no2 hk] at h; cases h
    | some k =>
      rw [dropped_yes hc hk]
      exact sublist_catOk hc (sub_erase P k)
end Go.Proofs.YtdddglihomchfaaGreat
namespace Go.Proofs.YtdddglihomchfaaGreat
open Go.ChangeShapes Go.WideShapes Go.ChangeAt Go.RowKit
set_option linter.unusedVariables false
set_option linter.unusedSimpArgs false
set_option maxRecDepth 10000
theorem uwb_cast {W : PWork} {b : Bool} {q : PWork × Bool} {w w' : World} {e : Ending} (h : q = (W, b)) (hu : UWorkB W.D.d1 W.D.f1 W.D.ss1 W.D.d2 W.D.f2 W.D.ss2 W.D.st W.P W.pp W.m b w e w') : UWorkB q.1.D.d1 q.1.D.f1 q.1.D.ss1 q.1.D.d2 q.1.D.f2 q.1.D.ss2 q.1.D.st q.1.P q.1.pp q.1.m q.2 w e w' := by subst h; exact hu
def shapeRes (W : PWork) (s : PStep) : PWork × Bool := if workOk W = true ∧ 1 ≤ W.m ∧ (doRes W.D s).2 = true then (⟨(doRes W.D s).1, W.P, W.pp, W.m - 1⟩, true) else (W, false)
def unshapeRes (W : PWork) : PWork × Bool := if workOk W = true ∧ (undoRes W.D).2 = true then (⟨(undoRes W.D).1, W.P, W.pp, W.m⟩, true) else (W, false)
def forgetRes (W : PWork) (nm : ByteArray) : PWork × Bool := if workOk W = true ∧ (dropped W.P nm).2 = true then (⟨W.D, (dropped W.P nm).1, W.pp, W.m⟩, true) else (W, false)
def keepRes (W : PWork) (nm : ByteArray) : PWork × Bool := if workOk W = true ∧ (added W.P ⟨nm, W.D.d2, W.D.f2, W.D.ss2⟩).2 = true then (⟨W.D, (added W.P ⟨nm, W.D.d2, W.D.f2, W.D.ss2⟩).1, W.pp, W.m⟩, true) else (W, false)
theorem workOk_P {W : PWork} {P : List PItem} (h : workOk W = true) (hd : catOk P = true) : workOk ⟨W.D, P, W.pp, W.m⟩ = true := by rw [workOk_iff] at *; exact ⟨h.1, hd, h.2.2⟩
theorem forget_yes {W : PWork} {nm : ByteArray} (h : ((dropped W.P nm).2 && (workOk W && workOk ⟨W.D, (dropped W.P nm).1, W.pp, W.m⟩)) = true) : (dropped W.P nm).2 = true ∧ workOk W = true ∧ workOk ⟨W.D, (dropped W.P nm).1, W.pp, W.m⟩ = true ∧ forgetRes W nm = (⟨W.D, (dropped W.P nm).1, W.pp, W.m⟩, true) := by
  simp only [Bool.and_eq_true] at h
  refine ⟨h.1, h.2.1, h.2.2, ?_⟩
  unfold forgetRes
  rw [if_pos ⟨h.2.1, h.1⟩]
theorem forget_no {W : PWork} {nm : ByteArray} (h : ((dropped W.P nm).2 && (workOk W && workOk ⟨W.D, (dropped W.P nm).1, W.pp, W.m⟩)) = false) : forgetRes W nm = (W, false) := by
  unfold forgetRes
  split
  · rename_i hc
    rw [hc.1, hc.2, workOk_P hc.1 (dropped_cat hc.2)] at h
    cases h
  · rfl
theorem forget_s1 {W : PWork} {nm : ByteArray} (h : workOk W = false) : forgetRes W nm = (W, false) := by unfold forgetRes; rw [h]; simp
theorem forget_s3 {W : PWork} {nm : ByteArray} (h : (dropped W.P nm).2 = false) : forgetRes W nm = (W, false) := by unfold forgetRes; rw [h]; simp
theorem forget_s4 {W : PWork} {nm : ByteArray} (h1 : workOk W = true) (h3 : (dropped W.P nm).2 = true) : forgetRes W nm = (⟨W.D, (dropped W.P nm).1, W.pp, W.m⟩, true) := by unfold forgetRes; rw [if_pos ⟨h1, h3⟩]
theorem forgetRes_ok (W : PWork) (nm : ByteArray) (h : OkWork W.D W.P W.pp 1048576) : OkWork (forgetRes W nm).1.D (forgetRes W nm).1.P (forgetRes W nm).1.pp 1048576 := by
  unfold forgetRes
  split
  · exact ⟨h.d, dropped_ok _ _ _ h.i, h.p⟩
  · exact h
end Go.Proofs.YtdddglihomchfaaGreat
namespace Go.Proofs.YtdddglihomchfaaGreat
open Go.ChangeShapes Go.WideShapes Go.ChangeAt Go.RowKit
set_option linter.unusedVariables false
set_option maxRecDepth 10000
theorem OwnItems.join {w w' : World} {lo mid n c m c2 N c' : Nat} {A A2 A' : Option Addr} {L M : List RItem} (ho : OwnItems w lo mid A n c L) (ho2 : OwnItems w mid w.heap.size A2 m c2 M) (hle : lo ≤ mid) (hm : mid ≤ w.heap.size)
    (hg : w.grownBy w' (Value.slice A n c).ownBlock) (h2 : w'.ownsRow lo 132 4 (.slice A' N c') N (L.flatMap itemCells ++ M.flatMap itemCells)) : OwnItems w' lo w'.heap.size A' N c' (L ++ M) := by
  have key : ∀ s : RItem, OwnS w lo w.heap.size s.A s.c s.x.ss → OwnS w' lo w'.heap.size s.A s.c s.x.ss := fun s hs =>
    ⟨own_grown hs.row hg (fun k hk => by
      intro he
      exact own_ne_type hs.row ho.row (by decide) k hk he), fun k hk => by have h1 := hs.top k hk; have h2 := hg.size; omega⟩
  refine ⟨by rw [List.flatMap_append]; exact h2, fun k hk => (h2.lt k hk).2, fun s hs => ?_, ?_⟩
  · rcases List.mem_append.1 hs with h | h
    · exact key s ((ho.in_ s h).wide (Nat.le_refl _) hm)
    · exact key s ((ho2.in_ s h).wide hle (Nat.le_refl _))
  · rw [List.pairwise_append]
    refine ⟨ho.apart, ho2.apart, fun a ha b hb k hk hk2 => ?_⟩
    have h1 := (ho.in_ a ha).top k hk
    have h3 := ((ho2.in_ b hb).row.lt k hk2).1
    omega
section
variable {P : Program} (w : World)
theorem step_append_G {ops : Array Oper} {o : Oper} {a : Act} {K : Act → World → Prop} {Q : Exit → Act → World → Prop} {E : Prop} (hgd : o.guard = none) (s x : Operand) (t : TypeId)
    (ho : o.op = .call { callee := .builtin .append, args := #[s, x], argTypes := #[t, t] })
    (base : Nat) (e : TypeId) (i : TypeInfo) (z : Value) (size bytes : Nat) (ht : P.underlying t = some (.slice e)) (hi : P.info? e = some i) (hz : i.zero = some z)
    (hsize : i.size = size) (hby : i.bytes = bytes) (hzs : z.cells.size = size) (hsz : 0 < size)
    (v : Value) (n : Nat) (xs : List Value) (hs : a.eval s = v) (hown : w.ownsRow base e size v n xs)
    (B : Nat) (A : Option Addr) (m c : Nat) (news : List Value) (hx : a.eval x = .slice A m c) (hr : Reads w B size A m news) (h1 : ∀ u ∈ news, u.oneCell' = true)
    (h63 : n + m ≤ maxLen) (hbytes : (n + m) * bytes ≤ 140737488355328) (hbase : base ≤ w.heap.size)
    (N : Nat) (ys : List Value) (hN : n + m = N) (hys : xs ++ news = ys)
    (h : ∀ A' c' w', w'.ownsRow base e size (.slice A' N c') N ys → w.grownBy w' v.ownBlock → (∀ k, (Value.slice A' N c').ownBlock = some k → v.ownBlock = some k ∨ k = w.heap.size) → K (a.put o.dst (.slice A' N c')) w') :
    if Region.wanted o (yielded ops a.tmps) = true then Oper.wp P o a w K Q else E := by
  refine step_append_any w hgd s x t ho base e i z size bytes ht hi hz hsize hby hzs hsz v n xs hs hown B A m c news hx hr h1 h63 hbytes hbase ?_
  subst hN; subst hys
  intro v' w' h2 hg hv
  obtain ⟨A', c', rfl⟩ := own_slice h2
  refine h A' c' w' h2 hg fun k hk => ?_
  rcases hv with hv | hv
  · exact .inl (hv.symm.trans hk)
  · rw [hk] at hv; injection hv with hv; exact .inr hv
end
theorem s_l35CopyN (B : Nat) (A : Option Addr) (n c : Nat) (L : List RItem) (w : World) (hS : Items w B A n L) (hB : B ≤ w.heap.size) :
    Calls Tryz.prog 143 #[.slice A n c] w fun e w' => ∃ A' c' L', e = .returned (.slice A' n c') ∧ plI L' = plI L ∧ OwnItems w' w.heap.size w'.heap.size A' n c' L' ∧ Below w.heap.size w w' := by
  have hl : (plI L).length = n := by rw [plI_len, hS.len]
  refine (u_l35Copy (plI L) B A n c L w rfl hS hB).mono ?_
  rintro e w' ⟨A', c', L', h1, h2, h3, h4⟩
  rw [hl] at h1 h3
  exact ⟨A', c', L', h1, h2, h3, h4⟩
theorem dropped_zero {P : List PItem} {name : ByteArray} (h : noNm P name P.length) : dropped P name = (P, false) := dropped_no2 (idxNm_none h)
set_option maxHeartbeats 6400000 in
theorem s_DropItem (name : ByteArray) (P : List PItem) (B : Nat) (A : Option Addr) (n c : Nat) (L : List RItem) (w : World) (hp : plI L = P) (hS : Items w B A n L) (hB : B ≤ w.heap.size) (hnc : n ≤ c) (hc63 : c ≤ 9223372036854775807) :
    Calls Tryz.prog 98 #[.slice A n c, .string name] w (UItemsB (dropped P name).1 (dropped P name).2 w) := by
  have hn := hS.nb
  have hl : P.length = n := by rw [← hp, plI_len, hS.len]
  have hco := fun (W : World) (hW : Below w.heap.size w W) => s_CatalogOk P B A n c L W hp (hS.below (hW.mono hB)) (Nat.le_trans hB hW.size)
  have hcp := fun (W : World) (hW : Below w.heap.size w W) => u_l35Copy P B A n c L W hp (hS.below (hW.mono hB)) (Nat.le_trans hB hW.size)
  have HCO := hide hco
  have HCP := hide hcp
  have HL := Lib.hid hl
  have HP := Lib.hid hp
  obtain ⟨i0, hii, hz0, hz1, hz2⟩ := info_parts info_itemCells
  clear hl hp hco hcp
  go_enter Tryz.func98, Tryz.ntmps98
  go_wp2
  go_loopw [6] (fun i wr => ∃ j : Nat, j ≤ n ∧ i = .int .i64 j ∧ Hid (noNm P name j) ∧ Below w.heap.size w wr) (fun i _ => n - (intOf i).toNat)
  case atStart => exact ⟨0, Nat.zero_le _, rfl, noNm_zero _ _, Below.refl _ _⟩
  case round =>
    obtain ⟨j, hj, rfl, HN, hbw⟩ := hrel
    have hzr := hbw.size
    by_cases hlt : j < n
    · obtain ⟨hk1, ad, rfl, hab, hc0, hc1, hc2, hc3, hss, hnm⟩ := (hS.below (hbw.mono hB)).at_ hlt
      have HX := Lib.hid (show P[j]? = some L[j].x by rw [← HP.out]; exact plI_at hk1)
      have hq1 : (ad.add (j * 4)).block < wr.heap.size := by rw [block_of_add]; omega
      cases hck : catOk P
      · have HR := Lib.hid (dropped_no1 (name := name) hck)
        have hco := unhide HCO wr hbw
        rw [hck] at hco
        have HC := hide hco
        clear hco hck
        go_wp2_with (first | (go_at_call 63; refine (unhide HC).mono ?_; rintro e w1 ⟨rfl, hb1⟩; obtain ⟨hcb1, hfb1⟩ := bcell hb1; (have hbw1 : Below w.heap.size w w1 := hbw.trans (hb1.mono (by omega)))) | (go_at_call 143; refine (unhide HCP _ hbw1).mono ?_; rintro e w3 ⟨A3, c3, L3, rfl, hp3, ho3, hb3⟩; obtain ⟨hcb3, hfb3⟩ := bcell hb3; (have hbw3 : Below w.heap.size w w3 := hbw1.trans (hb3.mono hbw1.size))))
        refine bodyPost_ret (v := .tuple #[.slice A3 P.length c3, .bool false]) (by simp [results, Tryz.results98, go_sem, *]) rfl ?_
        exact uitemsB_cast HR.out ⟨A3, c3, L3, rfl, hp3, ho3.wide hbw1.size (Nat.le_refl _), hbw3⟩
      · by_cases hq : L[j].x.nm = name
        · have HR := Lib.hid (dropped_yes hck (idxNm_some HN.out HX.out hq))
          have hbq := beq_toList_true hq
          have hco := unhide HCO wr hbw
          rw [hck] at hco
          have HC := hide hco
          have HLN : Hid (j + (n - (j + 1)) = n - 1) := by unfold Hid; omega
          have HQL : Hid ((P.take j ++ P.drop (j + 1)).length = n - 1) := by unfold Hid; have := HL.out; rw [List.length_append, List.length_take, List.length_drop]; omega
          have hi0 : (0 : Int) ≤ (j : Int) := Int.natCast_nonneg _
          have hi1 : (j : Int) ≤ (c : Int) := by omega
          have hi4 : (n : Int) ≤ (c : Int) := by omega
          have hi5 : (j : Int) ≤ (n : Int) := by omega
          have hw1 : IntKind.i64.wrap ((j : Int) + 1) = (j : Int) + 1 := by rw [IntKind.wrap_i64]; omega
          have hi6 : (0 : Int) ≤ (j : Int) + 1 := by omega
          have hi7 : (j : Int) + 1 ≤ (c : Int) := by omega
          have hi8 : (j : Int) + 1 ≤ (n : Int) := by omega
          have htn : ((j : Int) + 1).toNat = j + 1 := by omega
          have tok1 : True := trivial
          clear hco hck hq
          by_cases hcJ : c = j + 1
          · have hcut0 : ∀ W : World, Items W B (some ad) n L → Items W B (some ad) (n - (j + 1)) (L.drop (j + 1)) := by
              intro W h
              have := h.drop (k := j + 1) (cap := c) (by omega) hnc
              rwa [if_pos hcJ] at this
            have hcT : (c = j + 1) = True := eq_true hcJ
            clear hcJ
            go_wp2_with (first | (go_at_call 63; refine (unhide HC).mono ?_; rintro e w1 ⟨rfl, hb1⟩; obtain ⟨hcb1, hfb1⟩ := bcell hb1; (have hbw1 : Below w.heap.size w w1 := hbw.trans (hb1.mono (by omega))); (have hcc1 : ∀ q : Addr, q.block < wr.heap.size → w1.cell? q = wr.cell? q := fun q hq => hb1.cell hq); (have hz9 := hbw1.size); (have hS1 := hS.below (hbw1.mono hB))))
            go_region_held3 (fun W => (∀ b o, b < w1.heap.size → W.cell? ⟨b, o, none⟩ = (w1).cell? ⟨b, o, none⟩) ∧ (∀ b o, b < w1.heap.size → W.frozen? ⟨b, o, none⟩ = (w1).frozen? ⟨b, o, none⟩) ∧ Below (w1.heap.size) (w1) W) (exact keep_of bel) (first | (go_at_call 143; have _t := tok1; have hq := (‹_ ∧ _ ∧ Below _ _ _›).2.2; refine (s_l35CopyN B _ j c (L.take j) _ ?_ ?_).mono ?_; exact (hS1.below (hq.mono (by omega))).take (by omega); exact Nat.le_trans (by omega) hq.size; rintro e w2 ⟨A2, c2, L2, rfl, hp2, ho2, hb2⟩; clear _t tok1; have hqs2 := hq.size; have hbs2 := hb2.size; (try simp at hqs2); (try simp at hbs2); (have ho2 := ho2.wide (lo' := w1.heap.size) (hi' := w2.heap.size) (by first | exact hq.size | exact Nat.le_refl _) (Nat.le_refl _)); replace hp2 := Lib.hid hp2) | (go_at_call 143; have hq := (‹_ ∧ _ ∧ Below _ _ _›).2.2; refine (s_l35CopyN B _ (n - (j + 1)) (c - (j + 1)) (L.drop (j + 1)) _ ?_ ?_).mono ?_; exact hcut0 _ (hS1.below (hq.mono (by omega))); exact Nat.le_trans (by omega) hq.size; rintro e w3 ⟨A3, c3, L3, rfl, hp3, ho3, hb3⟩; have hqs3 := hq.size; have hbs3 := hb3.size; (try simp at hqs3); (try simp at hbs3); (have ho3 := ho3.wide (lo' := w2.heap.size) (hi' := w3.heap.size) (by first | exact Nat.le_refl _ | (simp; done)) (Nat.le_refl _)); (have ho23 : OwnItems w3 w1.heap.size w2.heap.size A2 j c2 L2 := (by first | exact ho2.below hb3 | exact ho2.drew.below hb3)); replace hp3 := Lib.hid hp3) | (refine step_append_G _ rfl (.tmp 27) (.tmp 32) 38 rfl w1.heap.size 132 i0 _ 4 56 Tryz.underlying38 hii hz0 hz1 hz2 rfl (by omega) (.slice A2 j c2) j (L2.flatMap itemCells) rfl ?_ w3.heap.size A3 (n - (j + 1)) c3 (L3.flatMap itemCells) rfl ?_ (itemCells_one L3) ?_ ?_ ?_ (n - 1) (L2.flatMap itemCells ++ L3.flatMap itemCells) HLN.out rfl ?_; (first | exact ho23.row | exact ho23.drew.row); (first | exact Reads.of_own ho3.row | exact Reads.of_own ho3.drew.row); (unfold maxLen; omega); omega; (have hq := (‹_ ∧ _ ∧ Below _ _ _›).2.2; first | exact hq.size | omega); intro A4 c4 W4 ho4 hg4 hq4; (have hj4 : OwnItems W4 w1.heap.size W4.heap.size A4 (n - 1) c4 (L2 ++ L3) := (by first | exact ho23.join ho3 (by omega) (by omega) hg4 ho4 | exact ho23.drew.join ho3.drew (by omega) (by show w2.heap.size ≤ w3.heap.size; omega) hg4 ho4)); (have hq := (‹_ ∧ _ ∧ Below _ _ _›).2.2; have hb14 := hq.trans (grown_below (B := w1.heap.size) hg4 (fun k hk => (ho23.row.lt k hk).1) hq.size))))
            all_goals (
              go_wp2
              refine bodyPost_ret (v := .tuple #[.slice A4 (n - 1) c4, .bool true]) (by simp [results, Tryz.results98, go_sem, *]) rfl ?_
              refine uitemsB_cast HR.out ⟨A4, c4, L2 ++ L3, by rw [HQL.out], ?_, ?_, ?_⟩
              · rw [plI_append, hp2.out, hp3.out, ← HP.out]; simp [plI, List.map_take, List.map_drop]
              · rw [HQL.out]
                first | exact hj4.wide hbw1.size (Nat.le_refl _) | exact hj4.drew.wide hbw1.size (Nat.le_refl _)
              · first | exact hbw1.trans (hb14.mono hbw1.size) | exact hbw1.trans (hb14.drew.mono hbw1.size))
          · have hcut0 : ∀ W : World, Items W B (some ad) n L → Items W B (some (ad.add ((j + 1) * 4))) (n - (j + 1)) (L.drop (j + 1)) := by
              intro W h
              have := h.drop (k := j + 1) (cap := c) (by omega) hnc
              rwa [if_neg hcJ] at this
            have hcT : (c = j + 1) = False := eq_false hcJ
            clear hcJ
            go_wp2_with (first | (go_at_call 63; refine (unhide HC).mono ?_; rintro e w1 ⟨rfl, hb1⟩; obtain ⟨hcb1, hfb1⟩ := bcell hb1; (have hbw1 : Below w.heap.size w w1 := hbw.trans (hb1.mono (by omega))); (have hcc1 : ∀ q : Addr, q.block < wr.heap.size → w1.cell? q = wr.cell? q := fun q hq => hb1.cell hq); (have hz9 := hbw1.size); (have hS1 := hS.below (hbw1.mono hB))))
            go_region_held3 (fun W => (∀ b o, b < w1.heap.size → W.cell? ⟨b, o, none⟩ = (w1).cell? ⟨b, o, none⟩) ∧ (∀ b o, b < w1.heap.size → W.frozen? ⟨b, o, none⟩ = (w1).frozen? ⟨b, o, none⟩) ∧ Below (w1.heap.size) (w1) W) (exact keep_of bel) (first | (go_at_call 143; have _t := tok1; have hq := (‹_ ∧ _ ∧ Below _ _ _›).2.2; refine (s_l35CopyN B _ j c (L.take j) _ ?_ ?_).mono ?_; exact (hS1.below (hq.mono (by omega))).take (by omega); exact Nat.le_trans (by omega) hq.size; rintro e w2 ⟨A2, c2, L2, rfl, hp2, ho2, hb2⟩; clear _t tok1; have hqs2 := hq.size; have hbs2 := hb2.size; (try simp at hqs2); (try simp at hbs2); (have ho2 := ho2.wide (lo' := w1.heap.size) (hi' := w2.heap.size) (by first | exact hq.size | exact Nat.le_refl _) (Nat.le_refl _)); replace hp2 := Lib.hid hp2) | (go_at_call 143; have hq := (‹_ ∧ _ ∧ Below _ _ _›).2.2; refine (s_l35CopyN B _ (n - (j + 1)) (c - (j + 1)) (L.drop (j + 1)) _ ?_ ?_).mono ?_; exact hcut0 _ (hS1.below (hq.mono (by omega))); exact Nat.le_trans (by omega) hq.size; rintro e w3 ⟨A3, c3, L3, rfl, hp3, ho3, hb3⟩; have hqs3 := hq.size; have hbs3 := hb3.size; (try simp at hqs3); (try simp at hbs3); (have ho3 := ho3.wide (lo' := w2.heap.size) (hi' := w3.heap.size) (by first | exact Nat.le_refl _ | (simp; done)) (Nat.le_refl _)); (have ho23 : OwnItems w3 w1.heap.size w2.heap.size A2 j c2 L2 := (by first | exact ho2.below hb3 | exact ho2.drew.below hb3)); replace hp3 := Lib.hid hp3) | (refine step_append_G _ rfl (.tmp 27) (.tmp 32) 38 rfl w1.heap.size 132 i0 _ 4 56 Tryz.underlying38 hii hz0 hz1 hz2 rfl (by omega) (.slice A2 j c2) j (L2.flatMap itemCells) rfl ?_ w3.heap.size A3 (n - (j + 1)) c3 (L3.flatMap itemCells) rfl ?_ (itemCells_one L3) ?_ ?_ ?_ (n - 1) (L2.flatMap itemCells ++ L3.flatMap itemCells) HLN.out rfl ?_; (first | exact ho23.row | exact ho23.drew.row); (first | exact Reads.of_own ho3.row | exact Reads.of_own ho3.drew.row); (unfold maxLen; omega); omega; (have hq := (‹_ ∧ _ ∧ Below _ _ _›).2.2; first | exact hq.size | omega); intro A4 c4 W4 ho4 hg4 hq4; (have hj4 : OwnItems W4 w1.heap.size W4.heap.size A4 (n - 1) c4 (L2 ++ L3) := (by first | exact ho23.join ho3 (by omega) (by omega) hg4 ho4 | exact ho23.drew.join ho3.drew (by omega) (by show w2.heap.size ≤ w3.heap.size; omega) hg4 ho4)); (have hq := (‹_ ∧ _ ∧ Below _ _ _›).2.2; have hb14 := hq.trans (grown_below (B := w1.heap.size) hg4 (fun k hk => (ho23.row.lt k hk).1) hq.size))))
            all_goals (
              go_wp2
              refine bodyPost_ret (v := .tuple #[.slice A4 (n - 1) c4, .bool true]) (by simp [results, Tryz.results98, go_sem, *]) rfl ?_
              refine uitemsB_cast HR.out ⟨A4, c4, L2 ++ L3, by rw [HQL.out], ?_, ?_, ?_⟩
              · rw [plI_append, hp2.out, hp3.out, ← HP.out]; simp [plI, List.map_take, List.map_drop]
              · rw [HQL.out]
                first | exact hj4.wide hbw1.size (Nat.le_refl _) | exact hj4.drew.wide hbw1.size (Nat.le_refl _)
              · first | exact hbw1.trans (hb14.mono hbw1.size) | exact hbw1.trans (hb14.drew.mono hbw1.size))
        · have HS := Lib.hid (noNm_succ HN.out HX.out hq)
          have hbq := beq_toList_false hq
          have hco := unhide HCO wr hbw
          rw [hck] at hco
          have HC := hide hco
          clear hco hck hq
          go_wp2_with (first | (go_at_call 63; refine (unhide HC).mono ?_; rintro e w1 ⟨rfl, hb1⟩; obtain ⟨hcb1, hfb1⟩ := bcell hb1; (have hcc1 : ∀ q : Addr, q.block < wr.heap.size → w1.cell? q = wr.cell? q := fun q hq => hb1.cell hq)))
          go_roundw
          case rel => exact ⟨j + 1, by omega, by go_num, HS.out, hbw.trans (hb1.mono (by omega))⟩
          case measure => simp [intOf]; omega
    · have hjn : j = n := by omega
      have HR := Lib.hid (dropped_zero (P := P) (name := name) (by rw [HL.out, ← hjn]; exact HN.out))
      clear hjn
      go_wp2_with (go_at_call 143; refine (unhide HCP _ hbw).mono ?_; rintro e w3 ⟨A3, c3, L3, rfl, hp3, ho3, hb3⟩; obtain ⟨hcb3, hfb3⟩ := bcell hb3; (have hbw3 : Below w.heap.size w w3 := hbw.trans (hb3.mono hbw.size)))
      refine bodyPost_ret (v := .tuple #[.slice A3 P.length c3, .bool false]) (by simp [results, Tryz.results98, go_sem, *]) rfl ?_
      exact uitemsB_cast HR.out ⟨A3, c3, L3, rfl, hp3, ho3.wide hbw.size (Nat.le_refl _), hbw3⟩
end Go.Proofs.YtdddglihomchfaaGreat
namespace Go.Proofs.YtdddglihomchfaaGreat
open Go.ChangeShapes Go.WideShapes Go.ChangeAt Go.RowKit
set_option linter.unusedVariables false
set_option linter.unusedSimpArgs false
set_option maxRecDepth 10000
set_option maxHeartbeats 1600000 in
theorem s_ForgetCard (d1 f1 : Int) (ss1 : List ByteArray) (d2 f2 : Int) (ss2 : List ByteArray) (st : List PStep) (P : List PItem) (pp : List PPaper) (m : Int) (nm : ByteArray) (B : Nat) (A1 A2 A3 A4 A5 : Option Addr) (c1 c2 c3 c4 c5 : Nat) (w : World) (hS : RdWork w B A1 A2 A3 A4 c4 A5 ⟨d1, f1, ss1, d2, f2, ss2, st⟩ P pp) (hB : B ≤ w.heap.size) (hok : OkWork (PDraft.mk d1 f1 ss1 d2 f2 ss2 st) P pp 1048576) :
    Calls Tryz.prog 38 #[.agg #[.int .i64 d1, .int .i64 f1, .slice A1 ss1.length c1, .int .i64 d2, .int .i64 f2, .slice A2 ss2.length c2, .slice A3 st.length c3, .slice A4 P.length c4, .slice A5 pp.length c5, .int .i64 m], .string nm] w (UWorkB (forgetRes (PWork.mk (PDraft.mk d1 f1 ss1 d2 f2 ss2 st) P pp m) nm).1.D.d1 (forgetRes (PWork.mk (PDraft.mk d1 f1 ss1 d2 f2 ss2 st) P pp m) nm).1.D.f1 (forgetRes (PWork.mk (PDraft.mk d1 f1 ss1 d2 f2 ss2 st) P pp m) nm).1.D.ss1 (forgetRes (PWork.mk (PDraft.mk d1 f1 ss1 d2 f2 ss2 st) P pp m) nm).1.D.d2 (forgetRes (PWork.mk (PDraft.mk d1 f1 ss1 d2 f2 ss2 st) P pp m) nm).1.D.f2 (forgetRes (PWork.mk (PDraft.mk d1 f1 ss1 d2 f2 ss2 st) P pp m) nm).1.D.ss2 (forgetRes (PWork.mk (PDraft.mk d1 f1 ss1 d2 f2 ss2 st) P pp m) nm).1.D.st (forgetRes (PWork.mk (PDraft.mk d1 f1 ss1 d2 f2 ss2 st) P pp m) nm).1.P (forgetRes (PWork.mk (PDraft.mk d1 f1 ss1 d2 f2 ss2 st) P pp m) nm).1.pp (forgetRes (PWork.mk (PDraft.mk d1 f1 ss1 d2 f2 ss2 st) P pp m) nm).1.m (forgetRes (PWork.mk (PDraft.mk d1 f1 ss1 d2 f2 ss2 st) P pp m) nm).2 w) := by
  obtain ⟨L0, hpl, hL0⟩ := hS.i
  have HPL := Lib.hid hpl
  clear hpl
  have hcall := fun (W : World) (hW : Below w.heap.size w W) => s_DropItem nm P B A4 P.length c4 L0 W HPL.out (hL0.below (hW.mono hB)) (Nat.le_trans hB hW.size) hS.cap.1 hS.cap.2.1
  have hokX := dropped_ok P nm 1048576 hok.i
  have hs1 := fun h => forget_s1 (W := (PWork.mk (PDraft.mk d1 f1 ss1 d2 f2 ss2 st) P pp m)) (nm := nm) h
  have hs3 := fun h => forget_s3 (W := (PWork.mk (PDraft.mk d1 f1 ss1 d2 f2 ss2 st) P pp m)) (nm := nm) h
  have hs4 := fun h1 h3 => forget_s4 (W := (PWork.mk (PDraft.mk d1 f1 ss1 d2 f2 ss2 st) P pp m)) (nm := nm) h1 h3
  simp only at hs1 hs3 hs4
  generalize forgetRes (PWork.mk (PDraft.mk d1 f1 ss1 d2 f2 ss2 st) P pp m) nm = R at *
  generalize (dropped P nm) = q at *
  obtain ⟨Pq, bq⟩ := q
  simp only at hcall hokX hs1 hs3 hs4
  have HCALL := hide hcall
  have HOKX := hide hokX
  have HOK := hide hok
  clear hcall hokX hok
  cases hw1 : workOk (PWork.mk (PDraft.mk d1 f1 ss1 d2 f2 ss2 st) P pp m)
  case false =>
    have hr4 := hs1 hw1
    have HW1 := Lib.hid hw1
    have HR4 := Lib.hid hr4
    clear hr4 hw1 hs1 hs3 hs4
    go_enter Tryz.func38, Tryz.ntmps38
    go_wp2_with fail
    obtain ⟨w1, he_w1⟩ : ∃ x, x = ((w.alloc (.cells #[.int .i64 d1, .int .i64 f1, .slice A1 ss1.length c1, .int .i64 d2, .int .i64 f2, .slice A2 ss2.length c2, .slice A3 st.length c3, .slice A4 P.length c4, .slice A5 pp.length c5, .int .i64 m] 41)).alloc (.cells #[.int .i64 0, .int .i64 0, .slice none 0 0, .int .i64 0, .int .i64 0, .slice none 0 0, .slice none 0 0, .slice none 0 0, .slice none 0 0, .int .i64 0] 41)) := ⟨_, rfl⟩
    have hk_a_w1 : w1.heap[w.heap.size]? = some (.cells #[.int .i64 d1, .int .i64 f1, .slice A1 ss1.length c1, .int .i64 d2, .int .i64 f2, .slice A2 ss2.length c2, .slice A3 st.length c3, .slice A4 P.length c4, .slice A5 pp.length c5, .int .i64 m] 41 (0, 0)) := by rw [he_w1]; exact (blk_alloc (blk_new_at w (.cells #[.int .i64 d1, .int .i64 f1, .slice A1 ss1.length c1, .int .i64 d2, .int .i64 f2, .slice A2 ss2.length c2, .slice A3 st.length c3, .slice A4 P.length c4, .slice A5 pp.length c5, .int .i64 m] 41) (k := w.heap.size) (by simp [World.setCell])) _)
    have hk_r_w1 : w1.heap[w.heap.size + 1]? = some (.cells #[.int .i64 0, .int .i64 0, .slice none 0 0, .int .i64 0, .int .i64 0, .slice none 0 0, .slice none 0 0, .slice none 0 0, .slice none 0 0, .int .i64 0] 41 (0, 0)) := by rw [he_w1]; exact (blk_new_at (w.alloc (.cells #[.int .i64 d1, .int .i64 f1, .slice A1 ss1.length c1, .int .i64 d2, .int .i64 f2, .slice A2 ss2.length c2, .slice A3 st.length c3, .slice A4 P.length c4, .slice A5 pp.length c5, .int .i64 m] 41)) (.cells #[.int .i64 0, .int .i64 0, .slice none 0 0, .int .i64 0, .int .i64 0, .slice none 0 0, .slice none 0 0, .slice none 0 0, .slice none 0 0, .int .i64 0] 41) (k := w.heap.size + 1) (by simp [World.setCell]))
    have hbw_w1 : Below w.heap.size w w1 := by rw [he_w1]; exact bel
    have hsw_w1 := hbw_w1.size
    have hch_w1 : w.heap.size ≤ w1.heap.size := by rw [he_w1]; simp [World.setCell]; try omega
    rw [← he_w1]
    clear he_w1
    refine (s_l38Copy d1 f1 ss1 d2 f2 ss2 st P pp m B A1 A2 A3 A4 A5 c1 c2 c3 c4 c5 w1 (hS.below (hbw_w1.mono hB)) (Nat.le_trans hB hsw_w1)).mono ?_
    rintro e w2 ⟨B1, e1, B2q, e2, B3, e3, B4, e4, B5, e5, rfl, hon, hb_w2⟩
    have hk_a_w2 := blk_next hk_a_w1 hb_w2
    have hk_r_w2 := blk_next hk_r_w1 hb_w2
    have hbw_w2 : Below w.heap.size w w2 := hbw_w1.trans (hb_w2.mono hsw_w1)
    have hsw_w2 := hbw_w2.size
    have hch_w2 : w1.heap.size ≤ w2.heap.size := hb_w2.size
    clear hk_a_w1 hk_r_w1 hbw_w1 hsw_w1 hb_w2
    have ho_c_w2 := hon
    clear hon
    obtain ⟨x0_a, x1_a, x2_a, x3_a, x4_a, x5_a, x6_a, x7_a, x8_a, x9_a, xl_a⟩ := blk10 hk_a_w2
    go_wp2_with fail
    clear x0_a x1_a x2_a x3_a x4_a x5_a x6_a x7_a x8_a x9_a xl_a
    have hl_a := blk_lt hk_a_w2
    have hl_r := blk_lt hk_r_w2
    have hlt_a_w3 := blk_lt hk_a_w2
    have hlt_r_w3 := blk_lt hk_r_w2
    obtain ⟨w3, he_w3⟩ : ∃ x, x = (w2.alloc (.cells #[.int .i64 d1, .int .i64 f1, .slice B1 ss1.length e1, .int .i64 d2, .int .i64 f2, .slice B2q ss2.length e2, .slice B3 st.length e3, .slice B4 P.length e4, .slice B5 pp.length e5, .int .i64 m] 41)) := ⟨_, rfl⟩
    have hk_a_w3 : w3.heap[w.heap.size]? = some (.cells #[.int .i64 d1, .int .i64 f1, .slice A1 ss1.length c1, .int .i64 d2, .int .i64 f2, .slice A2 ss2.length c2, .slice A3 st.length c3, .slice A4 P.length c4, .slice A5 pp.length c5, .int .i64 m] 41 (0, 0)) := by rw [he_w3]; exact (blk_alloc hk_a_w2 _)
    have hk_r_w3 : w3.heap[w.heap.size + 1]? = some (.cells #[.int .i64 0, .int .i64 0, .slice none 0 0, .int .i64 0, .int .i64 0, .slice none 0 0, .slice none 0 0, .slice none 0 0, .slice none 0 0, .int .i64 0] 41 (0, 0)) := by rw [he_w3]; exact (blk_alloc hk_r_w2 _)
    have hk_o_w3 : w3.heap[w2.heap.size]? = some (.cells #[.int .i64 d1, .int .i64 f1, .slice B1 ss1.length e1, .int .i64 d2, .int .i64 f2, .slice B2q ss2.length e2, .slice B3 st.length e3, .slice B4 P.length e4, .slice B5 pp.length e5, .int .i64 m] 41 (0, 0)) := by rw [he_w3]; exact (blk_new_at w2 (.cells #[.int .i64 d1, .int .i64 f1, .slice B1 ss1.length e1, .int .i64 d2, .int .i64 f2, .slice B2q ss2.length e2, .slice B3 st.length e3, .slice B4 P.length e4, .slice B5 pp.length e5, .int .i64 m] 41) (k := w2.heap.size) (by simp [World.setCell]))
    have hBX : Boxy w2 w3 := by rw [he_w3]; exact boxy
    have ho_c_w3 := ho_c_w2.boxy hBX
    have hbw_w3 : Below w.heap.size w w3 := by rw [he_w3]; exact bel
    have hsw_w3 := hbw_w3.size
    have hch_w3 : w2.heap.size ≤ w3.heap.size := by rw [he_w3]; simp [World.setCell]; try omega
    rw [← he_w3]
    clear hk_a_w2 hk_r_w2 ho_c_w2 hl_a hl_r hBX hbw_w2 hsw_w2 he_w3
    refine (s_WorkshopOk d1 f1 ss1 d2 f2 ss2 st P pp m B A1 A2 A3 A4 A5 c1 c2 c3 c4 c5 w3 (hS.below (hbw_w3.mono hB)) (Nat.le_trans hB hsw_w3)).mono ?_
    rw [HW1.out]
    rintro e w4 ⟨rfl, hb_w4⟩
    have hk_a_w4 := blk_next hk_a_w3 hb_w4
    have hk_r_w4 := blk_next hk_r_w3 hb_w4
    have hk_o_w4 := blk_next hk_o_w3 hb_w4
    have ho_c_w4 := ho_c_w3.below hb_w4
    have hbw_w4 : Below w.heap.size w w4 := hbw_w3.trans (hb_w4.mono hsw_w3)
    have hsw_w4 := hbw_w4.size
    have hch_w4 : w3.heap.size ≤ w4.heap.size := hb_w4.size
    clear hk_a_w3 hk_r_w3 hk_o_w3 ho_c_w3 hbw_w3 hsw_w3 hb_w4
    obtain ⟨x0_o, x1_o, x2_o, x3_o, x4_o, x5_o, x6_o, x7_o, x8_o, x9_o, xl_o⟩ := blk10 hk_o_w4
    obtain ⟨x0_r, x1_r, x2_r, x3_r, x4_r, x5_r, x6_r, x7_r, x8_r, x9_r, xl_r⟩ := blk10 hk_r_w4
    have f0_r := (blk_cells hk_r_w4 0).2
    have f1_r := (blk_cells hk_r_w4 1).2
    have f2_r := (blk_cells hk_r_w4 2).2
    have f3_r := (blk_cells hk_r_w4 3).2
    have f4_r := (blk_cells hk_r_w4 4).2
    have f5_r := (blk_cells hk_r_w4 5).2
    have f6_r := (blk_cells hk_r_w4 6).2
    have f7_r := (blk_cells hk_r_w4 7).2
    have f8_r := (blk_cells hk_r_w4 8).2
    have f9_r := (blk_cells hk_r_w4 9).2
    go_wp2
    have hbx_r := boxAt_of hk_r_w4
    refine bodyPost_ret (v := .tuple #[.agg #[.int .i64 d1, .int .i64 f1, .slice B1 ss1.length e1, .int .i64 d2, .int .i64 f2, .slice B2q ss2.length e2, .slice B3 st.length e3, .slice B4 P.length e4, .slice B5 pp.length e5, .int .i64 m], .bool false]) (by simp [results, Tryz.results38, go_sem, *]) rfl ?_
    clear x0_o x1_o x2_o x3_o x4_o x5_o x6_o x7_o x8_o x9_o xl_o x0_r x1_r x2_r x3_r x4_r x5_r x6_r x7_r x8_r x9_r xl_r f0_r f1_r f2_r f3_r f4_r f5_r f6_r f7_r f8_r f9_r
    obtain ⟨wE, heE⟩ : ∃ x, x = ((((((((((w4.setCell ⟨w.heap.size + 1, 0, none⟩ (.int .i64 d1)).setCell ⟨w.heap.size + 1, 1, none⟩ (.int .i64 f1)).setCell ⟨w.heap.size + 1, 2, none⟩ (.slice B1 ss1.length e1)).setCell ⟨w.heap.size + 1, 3, none⟩ (.int .i64 d2)).setCell ⟨w.heap.size + 1, 4, none⟩ (.int .i64 f2)).setCell ⟨w.heap.size + 1, 5, none⟩ (.slice B2q ss2.length e2)).setCell ⟨w.heap.size + 1, 6, none⟩ (.slice B3 st.length e3)).setCell ⟨w.heap.size + 1, 7, none⟩ (.slice B4 P.length e4)).setCell ⟨w.heap.size + 1, 8, none⟩ (.slice B5 pp.length e5)).setCell ⟨w.heap.size + 1, 9, none⟩ (.int .i64 m)) := ⟨_, rfl⟩
    have hBX : Boxy w4 wE := by rw [heE]; exact boxy
    have hBW : Below w.heap.size w wE := by rw [heE]; exact bel
    have hsE : wE.heap.size = w4.heap.size := by rw [heE]; simp [World.setCell]
    rw [← heE]
    clear heE
    have hOW : OwnW wE w.heap.size wE.heap.size B1 e1 B2q e2 B3 e3 B4 e4 B5 e5 (PDraft.mk d1 f1 ss1 d2 f2 ss2 st) P pp := (ho_c_w4.boxy hBX).wide (by omega) (by omega)
    exact uwb_cast HR4.out ⟨B1, e1, B2q, e2, B3, e3, B4, e4, B5, e5, rfl, hOW, hBW⟩
  case true =>
    cases bq
    case false =>
      have hr4 := hs3 rfl
      have HW1 := Lib.hid hw1
      have HR4 := Lib.hid hr4
      clear hr4 hw1 hs1 hs3 hs4
      go_enter Tryz.func38, Tryz.ntmps38
      go_wp2_with fail
      obtain ⟨w1, he_w1⟩ : ∃ x, x = ((w.alloc (.cells #[.int .i64 d1, .int .i64 f1, .slice A1 ss1.length c1, .int .i64 d2, .int .i64 f2, .slice A2 ss2.length c2, .slice A3 st.length c3, .slice A4 P.length c4, .slice A5 pp.length c5, .int .i64 m] 41)).alloc (.cells #[.int .i64 0, .int .i64 0, .slice none 0 0, .int .i64 0, .int .i64 0, .slice none 0 0, .slice none 0 0, .slice none 0 0, .slice none 0 0, .int .i64 0] 41)) := ⟨_, rfl⟩
      have hk_a_w1 : w1.heap[w.heap.size]? = some (.cells #[.int .i64 d1, .int .i64 f1, .slice A1 ss1.length c1, .int .i64 d2, .int .i64 f2, .slice A2 ss2.length c2, .slice A3 st.length c3, .slice A4 P.length c4, .slice A5 pp.length c5, .int .i64 m] 41 (0, 0)) := by rw [he_w1]; exact (blk_alloc (blk_new_at w (.cells #[.int .i64 d1, .int .i64 f1, .slice A1 ss1.length c1, .int .i64 d2, .int .i64 f2, .slice A2 ss2.length c2, .slice A3 st.length c3, .slice A4 P.length c4, .slice A5 pp.length c5, .int .i64 m] 41) (k := w.heap.size) (by simp [World.setCell])) _)
      have hk_r_w1 : w1.heap[w.heap.size + 1]? = some (.cells #[.int .i64 0, .int .i64 0, .slice none 0 0, .int .i64 0, .int .i64 0, .slice none 0 0, .slice none 0 0, .slice none 0 0, .slice none 0 0, .int .i64 0] 41 (0, 0)) := by rw [he_w1]; exact (blk_new_at (w.alloc (.cells #[.int .i64 d1, .int .i64 f1, .slice A1 ss1.length c1, .int .i64 d2, .int .i64 f2, .slice A2 ss2.length c2, .slice A3 st.length c3, .slice A4 P.length c4, .slice A5 pp.length c5, .int .i64 m] 41)) (.cells #[.int .i64 0, .int .i64 0, .slice none 0 0, .int .i64 0, .int .i64 0, .slice none 0 0, .slice none 0 0, .slice none 0 0, .slice none 0 0, .int .i64 0] 41) (k := w.heap.size + 1) (by simp [World.setCell]))
      have hbw_w1 : Below w.heap.size w w1 := by rw [he_w1]; exact bel
      have hsw_w1 := hbw_w1.size
      have hch_w1 : w.heap.size ≤ w1.heap.size := by rw [he_w1]; simp [World.setCell]; try omega
      rw [← he_w1]
      clear he_w1
      refine (s_l38Copy d1 f1 ss1 d2 f2 ss2 st P pp m B A1 A2 A3 A4 A5 c1 c2 c3 c4 c5 w1 (hS.below (hbw_w1.mono hB)) (Nat.le_trans hB hsw_w1)).mono ?_
      rintro e w2 ⟨B1, e1, B2q, e2, B3, e3, B4, e4, B5, e5, rfl, hon, hb_w2⟩
      have hk_a_w2 := blk_next hk_a_w1 hb_w2
      have hk_r_w2 := blk_next hk_r_w1 hb_w2
      have hbw_w2 : Below w.heap.size w w2 := hbw_w1.trans (hb_w2.mono hsw_w1)
      have hsw_w2 := hbw_w2.size
      have hch_w2 : w1.heap.size ≤ w2.heap.size := hb_w2.size
      clear hk_a_w1 hk_r_w1 hbw_w1 hsw_w1 hb_w2
      have ho_c_w2 := hon
      clear hon
      obtain ⟨x0_a, x1_a, x2_a, x3_a, x4_a, x5_a, x6_a, x7_a, x8_a, x9_a, xl_a⟩ := blk10 hk_a_w2
      go_wp2_with fail
      clear x0_a x1_a x2_a x3_a x4_a x5_a x6_a x7_a x8_a x9_a xl_a
      have hl_a := blk_lt hk_a_w2
      have hl_r := blk_lt hk_r_w2
      have hlt_a_w3 := blk_lt hk_a_w2
      have hlt_r_w3 := blk_lt hk_r_w2
      obtain ⟨w3, he_w3⟩ : ∃ x, x = (w2.alloc (.cells #[.int .i64 d1, .int .i64 f1, .slice B1 ss1.length e1, .int .i64 d2, .int .i64 f2, .slice B2q ss2.length e2, .slice B3 st.length e3, .slice B4 P.length e4, .slice B5 pp.length e5, .int .i64 m] 41)) := ⟨_, rfl⟩
      have hk_a_w3 : w3.heap[w.heap.size]? = some (.cells #[.int .i64 d1, .int .i64 f1, .slice A1 ss1.length c1, .int .i64 d2, .int .i64 f2, .slice A2 ss2.length c2, .slice A3 st.length c3, .slice A4 P.length c4, .slice A5 pp.length c5, .int .i64 m] 41 (0, 0)) := by rw [he_w3]; exact (blk_alloc hk_a_w2 _)
      have hk_r_w3 : w3.heap[w.heap.size + 1]? = some (.cells #[.int .i64 0, .int .i64 0, .slice none 0 0, .int .i64 0, .int .i64 0, .slice none 0 0, .slice none 0 0, .slice none 0 0, .slice none 0 0, .int .i64 0] 41 (0, 0)) := by rw [he_w3]; exact (blk_alloc hk_r_w2 _)
      have hk_o_w3 : w3.heap[w2.heap.size]? = some (.cells #[.int .i64 d1, .int .i64 f1, .slice B1 ss1.length e1, .int .i64 d2, .int .i64 f2, .slice B2q ss2.length e2, .slice B3 st.length e3, .slice B4 P.length e4, .slice B5 pp.length e5, .int .i64 m] 41 (0, 0)) := by rw [he_w3]; exact (blk_new_at w2 (.cells #[.int .i64 d1, .int .i64 f1, .slice B1 ss1.length e1, .int .i64 d2, .int .i64 f2, .slice B2q ss2.length e2, .slice B3 st.length e3, .slice B4 P.length e4, .slice B5 pp.length e5, .int .i64 m] 41) (k := w2.heap.size) (by simp [World.setCell]))
      have hBX : Boxy w2 w3 := by rw [he_w3]; exact boxy
      have ho_c_w3 := ho_c_w2.boxy hBX
      have hbw_w3 : Below w.heap.size w w3 := by rw [he_w3]; exact bel
      have hsw_w3 := hbw_w3.size
      have hch_w3 : w2.heap.size ≤ w3.heap.size := by rw [he_w3]; simp [World.setCell]; try omega
      rw [← he_w3]
      clear hk_a_w2 hk_r_w2 ho_c_w2 hl_a hl_r hBX hbw_w2 hsw_w2 he_w3
      refine (s_WorkshopOk d1 f1 ss1 d2 f2 ss2 st P pp m B A1 A2 A3 A4 A5 c1 c2 c3 c4 c5 w3 (hS.below (hbw_w3.mono hB)) (Nat.le_trans hB hsw_w3)).mono ?_
      rw [HW1.out]
      rintro e w4 ⟨rfl, hb_w4⟩
      have hk_a_w4 := blk_next hk_a_w3 hb_w4
      have hk_r_w4 := blk_next hk_r_w3 hb_w4
      have hk_o_w4 := blk_next hk_o_w3 hb_w4
      have ho_c_w4 := ho_c_w3.below hb_w4
      have hbw_w4 : Below w.heap.size w w4 := hbw_w3.trans (hb_w4.mono hsw_w3)
      have hsw_w4 := hbw_w4.size
      have hch_w4 : w3.heap.size ≤ w4.heap.size := hb_w4.size
      clear hk_a_w3 hk_r_w3 hk_o_w3 ho_c_w3 hbw_w3 hsw_w3 hb_w4
      obtain ⟨x0_a, x1_a, x2_a, x3_a, x4_a, x5_a, x6_a, x7_a, x8_a, x9_a, xl_a⟩ := blk10 hk_a_w4
      go_wp2_with fail
      clear x0_a x1_a x2_a x3_a x4_a x5_a x6_a x7_a x8_a x9_a xl_a
      refine (unhide HCALL _ hbw_w4).mono ?_
      rintro e w5 ⟨E4, g4, LQ, rfl, hpq, hon2, hb_w5⟩
      have HPQ := Lib.hid hpq
      clear hpq
      have hk_a_w5 := blk_next hk_a_w4 hb_w5
      have hk_r_w5 := blk_next hk_r_w4 hb_w5
      have hk_o_w5 := blk_next hk_o_w4 hb_w5
      have ho_c_w5 := ho_c_w4.below hb_w5
      have hbw_w5 : Below w.heap.size w w5 := hbw_w4.trans (hb_w5.mono hsw_w4)
      have hsw_w5 := hbw_w5.size
      have hch_w5 : w4.heap.size ≤ w5.heap.size := hb_w5.size
      clear hk_a_w4 hk_r_w4 hk_o_w4 ho_c_w4 hbw_w4 hsw_w4 hb_w5
      have ho_q_w5 := hon2
      clear hon2
      clear ho_q_w5
      obtain ⟨x0_o, x1_o, x2_o, x3_o, x4_o, x5_o, x6_o, x7_o, x8_o, x9_o, xl_o⟩ := blk10 hk_o_w5
      obtain ⟨x0_r, x1_r, x2_r, x3_r, x4_r, x5_r, x6_r, x7_r, x8_r, x9_r, xl_r⟩ := blk10 hk_r_w5
      have f0_r := (blk_cells hk_r_w5 0).2
      have f1_r := (blk_cells hk_r_w5 1).2
      have f2_r := (blk_cells hk_r_w5 2).2
      have f3_r := (blk_cells hk_r_w5 3).2
      have f4_r := (blk_cells hk_r_w5 4).2
      have f5_r := (blk_cells hk_r_w5 5).2
      have f6_r := (blk_cells hk_r_w5 6).2
      have f7_r := (blk_cells hk_r_w5 7).2
      have f8_r := (blk_cells hk_r_w5 8).2
      have f9_r := (blk_cells hk_r_w5 9).2
      go_wp2
      have hbx_r := boxAt_of hk_r_w5
      refine bodyPost_ret (v := .tuple #[.agg #[.int .i64 d1, .int .i64 f1, .slice B1 ss1.length e1, .int .i64 d2, .int .i64 f2, .slice B2q ss2.length e2, .slice B3 st.length e3, .slice B4 P.length e4, .slice B5 pp.length e5, .int .i64 m], .bool false]) (by simp [results, Tryz.results38, go_sem, *]) rfl ?_
      clear x0_o x1_o x2_o x3_o x4_o x5_o x6_o x7_o x8_o x9_o xl_o x0_r x1_r x2_r x3_r x4_r x5_r x6_r x7_r x8_r x9_r xl_r f0_r f1_r f2_r f3_r f4_r f5_r f6_r f7_r f8_r f9_r
      obtain ⟨wD, heD⟩ : ∃ x, x = ((((((((((w5.setCell ⟨w.heap.size + 1, 0, none⟩ (.int .i64 d1)).setCell ⟨w.heap.size + 1, 1, none⟩ (.int .i64 f1)).setCell ⟨w.heap.size + 1, 2, none⟩ (.slice B1 ss1.length e1)).setCell ⟨w.heap.size + 1, 3, none⟩ (.int .i64 d2)).setCell ⟨w.heap.size + 1, 4, none⟩ (.int .i64 f2)).setCell ⟨w.heap.size + 1, 5, none⟩ (.slice B2q ss2.length e2)).setCell ⟨w.heap.size + 1, 6, none⟩ (.slice B3 st.length e3)).setCell ⟨w.heap.size + 1, 7, none⟩ (.slice B4 P.length e4)).setCell ⟨w.heap.size + 1, 8, none⟩ (.slice B5 pp.length e5)).setCell ⟨w.heap.size + 1, 9, none⟩ (.int .i64 m)) := ⟨_, rfl⟩
      have hBX1 : Boxy w5 wD := by rw [heD]; exact boxy
      have hBW1 : Below w.heap.size w wD := by rw [heD]; exact bel
      have hsE1 : wD.heap.size = w5.heap.size := by rw [heD]; simp [World.setCell]
      rw [← heD]
      clear heD
      have hBX : Boxy w5 wD := hBX1
      have hBW : Below w.heap.size w wD := hBW1
      have hsE : w5.heap.size ≤ wD.heap.size := (by first | omega | (simp; omega))
      generalize wD = wE at *
      have hOW : OwnW wE w.heap.size wE.heap.size B1 e1 B2q e2 B3 e3 B4 e4 B5 e5 (PDraft.mk d1 f1 ss1 d2 f2 ss2 st) P pp := (ho_c_w5.boxy hBX).wide (by omega) (by omega)
      exact uwb_cast HR4.out ⟨B1, e1, B2q, e2, B3, e3, B4, e4, B5, e5, rfl, hOW, hBW⟩
    case true =>
      have hr4 := hs4 hw1 rfl
      have HW1 := Lib.hid hw1
      have HR4 := Lib.hid hr4
      clear hr4 hw1 hs1 hs3 hs4
      go_enter Tryz.func38, Tryz.ntmps38
      go_wp2_with fail
      obtain ⟨w1, he_w1⟩ : ∃ x, x = ((w.alloc (.cells #[.int .i64 d1, .int .i64 f1, .slice A1 ss1.length c1, .int .i64 d2, .int .i64 f2, .slice A2 ss2.length c2, .slice A3 st.length c3, .slice A4 P.length c4, .slice A5 pp.length c5, .int .i64 m] 41)).alloc (.cells #[.int .i64 0, .int .i64 0, .slice none 0 0, .int .i64 0, .int .i64 0, .slice none 0 0, .slice none 0 0, .slice none 0 0, .slice none 0 0, .int .i64 0] 41)) := ⟨_, rfl⟩
      have hk_a_w1 : w1.heap[w.heap.size]? = some (.cells #[.int .i64 d1, .int .i64 f1, .slice A1 ss1.length c1, .int .i64 d2, .int .i64 f2, .slice A2 ss2.length c2, .slice A3 st.length c3, .slice A4 P.length c4, .slice A5 pp.length c5, .int .i64 m] 41 (0, 0)) := by rw [he_w1]; exact (blk_alloc (blk_new_at w (.cells #[.int .i64 d1, .int .i64 f1, .slice A1 ss1.length c1, .int .i64 d2, .int .i64 f2, .slice A2 ss2.length c2, .slice A3 st.length c3, .slice A4 P.length c4, .slice A5 pp.length c5, .int .i64 m] 41) (k := w.heap.size) (by simp [World.setCell])) _)
      have hk_r_w1 : w1.heap[w.heap.size + 1]? = some (.cells #[.int .i64 0, .int .i64 0, .slice none 0 0, .int .i64 0, .int .i64 0, .slice none 0 0, .slice none 0 0, .slice none 0 0, .slice none 0 0, .int .i64 0] 41 (0, 0)) := by rw [he_w1]; exact (blk_new_at (w.alloc (.cells #[.int .i64 d1, .int .i64 f1, .slice A1 ss1.length c1, .int .i64 d2, .int .i64 f2, .slice A2 ss2.length c2, .slice A3 st.length c3, .slice A4 P.length c4, .slice A5 pp.length c5, .int .i64 m] 41)) (.cells #[.int .i64 0, .int .i64 0, .slice none 0 0, .int .i64 0, .int .i64 0, .slice none 0 0, .slice none 0 0, .slice none 0 0, .slice none 0 0, .int .i64 0] 41) (k := w.heap.size + 1) (by simp [World.setCell]))
      have hbw_w1 : Below w.heap.size w w1 := by rw [he_w1]; exact bel
      have hsw_w1 := hbw_w1.size
      have hch_w1 : w.heap.size ≤ w1.heap.size := by rw [he_w1]; simp [World.setCell]; try omega
      rw [← he_w1]
      clear he_w1
      refine (s_l38Copy d1 f1 ss1 d2 f2 ss2 st P pp m B A1 A2 A3 A4 A5 c1 c2 c3 c4 c5 w1 (hS.below (hbw_w1.mono hB)) (Nat.le_trans hB hsw_w1)).mono ?_
      rintro e w2 ⟨B1, e1, B2q, e2, B3, e3, B4, e4, B5, e5, rfl, hon, hb_w2⟩
      obtain ⟨l1, h1_, l2, h2_, l3, h3_, L4, hr, ha, hx, hp4, hy, hz⟩ := hon.all
      have HP4 := Lib.hid hp4
      have HR := hide hr
      have HA := hide ha
      clear hon hr ha hp4
      have hk_a_w2 := blk_next hk_a_w1 hb_w2
      have hk_r_w2 := blk_next hk_r_w1 hb_w2
      have hbw_w2 : Below w.heap.size w w2 := hbw_w1.trans (hb_w2.mono hsw_w1)
      have hsw_w2 := hbw_w2.size
      have hch_w2 : w1.heap.size ≤ w2.heap.size := hb_w2.size
      clear hk_a_w1 hk_r_w1 hbw_w1 hsw_w1 hb_w2
      have ho_x_w2 := hx
      clear hx
      have ho_y_w2 := hy
      clear hy
      have ho_z_w2 := hz
      clear hz
      obtain ⟨x0_a, x1_a, x2_a, x3_a, x4_a, x5_a, x6_a, x7_a, x8_a, x9_a, xl_a⟩ := blk10 hk_a_w2
      go_wp2_with fail
      clear x0_a x1_a x2_a x3_a x4_a x5_a x6_a x7_a x8_a x9_a xl_a
      have hl_a := blk_lt hk_a_w2
      have hl_r := blk_lt hk_r_w2
      have hlt_a_w3 := blk_lt hk_a_w2
      have hlt_r_w3 := blk_lt hk_r_w2
      obtain ⟨w3, he_w3⟩ : ∃ x, x = (w2.alloc (.cells #[.int .i64 d1, .int .i64 f1, .slice B1 ss1.length e1, .int .i64 d2, .int .i64 f2, .slice B2q ss2.length e2, .slice B3 st.length e3, .slice B4 P.length e4, .slice B5 pp.length e5, .int .i64 m] 41)) := ⟨_, rfl⟩
      have hk_a_w3 : w3.heap[w.heap.size]? = some (.cells #[.int .i64 d1, .int .i64 f1, .slice A1 ss1.length c1, .int .i64 d2, .int .i64 f2, .slice A2 ss2.length c2, .slice A3 st.length c3, .slice A4 P.length c4, .slice A5 pp.length c5, .int .i64 m] 41 (0, 0)) := by rw [he_w3]; exact (blk_alloc hk_a_w2 _)
      have hk_r_w3 : w3.heap[w.heap.size + 1]? = some (.cells #[.int .i64 0, .int .i64 0, .slice none 0 0, .int .i64 0, .int .i64 0, .slice none 0 0, .slice none 0 0, .slice none 0 0, .slice none 0 0, .int .i64 0] 41 (0, 0)) := by rw [he_w3]; exact (blk_alloc hk_r_w2 _)
      have hk_o_w3 : w3.heap[w2.heap.size]? = some (.cells #[.int .i64 d1, .int .i64 f1, .slice B1 ss1.length e1, .int .i64 d2, .int .i64 f2, .slice B2q ss2.length e2, .slice B3 st.length e3, .slice B4 P.length e4, .slice B5 pp.length e5, .int .i64 m] 41 (0, 0)) := by rw [he_w3]; exact (blk_new_at w2 (.cells #[.int .i64 d1, .int .i64 f1, .slice B1 ss1.length e1, .int .i64 d2, .int .i64 f2, .slice B2q ss2.length e2, .slice B3 st.length e3, .slice B4 P.length e4, .slice B5 pp.length e5, .int .i64 m] 41) (k := w2.heap.size) (by simp [World.setCell]))
      have hBX : Boxy w2 w3 := by rw [he_w3]; exact boxy
      have ho_x_w3 := ho_x_w2.boxy hBX
      have ho_y_w3 := ho_y_w2.boxy hBX
      have ho_z_w3 := ho_z_w2.boxy hBX
      have hbw_w3 : Below w.heap.size w w3 := by rw [he_w3]; exact bel
      have hsw_w3 := hbw_w3.size
      have hch_w3 : w2.heap.size ≤ w3.heap.size := by rw [he_w3]; simp [World.setCell]; try omega
      rw [← he_w3]
      clear hk_a_w2 hk_r_w2 ho_x_w2 ho_y_w2 ho_z_w2 hl_a hl_r hBX hbw_w2 hsw_w2 he_w3
      refine (s_WorkshopOk d1 f1 ss1 d2 f2 ss2 st P pp m B A1 A2 A3 A4 A5 c1 c2 c3 c4 c5 w3 (hS.below (hbw_w3.mono hB)) (Nat.le_trans hB hsw_w3)).mono ?_
      rw [HW1.out]
      rintro e w4 ⟨rfl, hb_w4⟩
      have hk_a_w4 := blk_next hk_a_w3 hb_w4
      have hk_r_w4 := blk_next hk_r_w3 hb_w4
      have hk_o_w4 := blk_next hk_o_w3 hb_w4
      have ho_x_w4 := ho_x_w3.below hb_w4
      have ho_y_w4 := ho_y_w3.below hb_w4
      have ho_z_w4 := ho_z_w3.below hb_w4
      have hbw_w4 : Below w.heap.size w w4 := hbw_w3.trans (hb_w4.mono hsw_w3)
      have hsw_w4 := hbw_w4.size
      have hch_w4 : w3.heap.size ≤ w4.heap.size := hb_w4.size
      clear hk_a_w3 hk_r_w3 hk_o_w3 ho_x_w3 ho_y_w3 ho_z_w3 hbw_w3 hsw_w3 hb_w4
      obtain ⟨x0_a, x1_a, x2_a, x3_a, x4_a, x5_a, x6_a, x7_a, x8_a, x9_a, xl_a⟩ := blk10 hk_a_w4
      go_wp2_with fail
      clear x0_a x1_a x2_a x3_a x4_a x5_a x6_a x7_a x8_a x9_a xl_a
      refine (unhide HCALL _ hbw_w4).mono ?_
      rintro e w5 ⟨E4, g4, LQ, rfl, hpq, hon2, hb_w5⟩
      have HPQ := Lib.hid hpq
      clear hpq
      have hk_a_w5 := blk_next hk_a_w4 hb_w5
      have hk_r_w5 := blk_next hk_r_w4 hb_w5
      have hk_o_w5 := blk_next hk_o_w4 hb_w5
      have ho_x_w5 := ho_x_w4.below hb_w5
      have ho_y_w5 := ho_y_w4.below hb_w5
      have ho_z_w5 := ho_z_w4.below hb_w5
      have hbw_w5 : Below w.heap.size w w5 := hbw_w4.trans (hb_w5.mono hsw_w4)
      have hsw_w5 := hbw_w5.size
      have hch_w5 : w4.heap.size ≤ w5.heap.size := hb_w5.size
      clear hk_a_w4 hk_r_w4 hk_o_w4 ho_x_w4 ho_y_w4 ho_z_w4 hbw_w4 hsw_w4 hb_w5
      have ho_q_w5 := hon2
      clear hon2
      clear ho_y_w5
      obtain ⟨x0_a, x1_a, x2_a, x3_a, x4_a, x5_a, x6_a, x7_a, x8_a, x9_a, xl_a⟩ := blk10 hk_a_w5
      obtain ⟨x0_o, x1_o, x2_o, x3_o, x4_o, x5_o, x6_o, x7_o, x8_o, x9_o, xl_o⟩ := blk10 hk_o_w5
      obtain ⟨x0_r, x1_r, x2_r, x3_r, x4_r, x5_r, x6_r, x7_r, x8_r, x9_r, xl_r⟩ := blk10 hk_r_w5
      have f0_o := (blk_cells hk_o_w5 0).2
      have f1_o := (blk_cells hk_o_w5 1).2
      have f2_o := (blk_cells hk_o_w5 2).2
      have f3_o := (blk_cells hk_o_w5 3).2
      have f4_o := (blk_cells hk_o_w5 4).2
      have f5_o := (blk_cells hk_o_w5 5).2
      have f6_o := (blk_cells hk_o_w5 6).2
      have f7_o := (blk_cells hk_o_w5 7).2
      have f8_o := (blk_cells hk_o_w5 8).2
      have f9_o := (blk_cells hk_o_w5 9).2
      have f0_r := (blk_cells hk_r_w5 0).2
      have f1_r := (blk_cells hk_r_w5 1).2
      have f2_r := (blk_cells hk_r_w5 2).2
      have f3_r := (blk_cells hk_r_w5 3).2
      have f4_r := (blk_cells hk_r_w5 4).2
      have f5_r := (blk_cells hk_r_w5 5).2
      have f6_r := (blk_cells hk_r_w5 6).2
      have f7_r := (blk_cells hk_r_w5 7).2
      have f8_r := (blk_cells hk_r_w5 8).2
      have f9_r := (blk_cells hk_r_w5 9).2
      go_wp2
      have hbx_o := boxAt_of hk_o_w5
      have hbx_r := boxAt_of hk_r_w5
      refine bodyPost_ret (v := .tuple #[.agg #[.int .i64 d1, .int .i64 f1, .slice B1 ss1.length e1, .int .i64 d2, .int .i64 f2, .slice B2q ss2.length e2, .slice B3 st.length e3, .slice E4 Pq.length g4, .slice B5 pp.length e5, .int .i64 m], .bool true]) (by simp [results, Tryz.results38, go_sem, *]) rfl ?_
      clear x0_a x1_a x2_a x3_a x4_a x5_a x6_a x7_a x8_a x9_a xl_a x0_o x1_o x2_o x3_o x4_o x5_o x6_o x7_o x8_o x9_o xl_o x0_r x1_r x2_r x3_r x4_r x5_r x6_r x7_r x8_r x9_r xl_r f0_o f1_o f2_o f3_o f4_o f5_o f6_o f7_o f8_o f9_o f0_r f1_r f2_r f3_r f4_r f5_r f6_r f7_r f8_r f9_r
      obtain ⟨wD, heD⟩ : ∃ x, x = (((((((((((w5.setCell ⟨w2.heap.size, 7, none⟩ (.slice E4 Pq.length g4)).setCell ⟨w.heap.size + 1, 0, none⟩ (.int .i64 d1)).setCell ⟨w.heap.size + 1, 1, none⟩ (.int .i64 f1)).setCell ⟨w.heap.size + 1, 2, none⟩ (.slice B1 ss1.length e1)).setCell ⟨w.heap.size + 1, 3, none⟩ (.int .i64 d2)).setCell ⟨w.heap.size + 1, 4, none⟩ (.int .i64 f2)).setCell ⟨w.heap.size + 1, 5, none⟩ (.slice B2q ss2.length e2)).setCell ⟨w.heap.size + 1, 6, none⟩ (.slice B3 st.length e3)).setCell ⟨w.heap.size + 1, 7, none⟩ (.slice E4 Pq.length g4)).setCell ⟨w.heap.size + 1, 8, none⟩ (.slice B5 pp.length e5)).setCell ⟨w.heap.size + 1, 9, none⟩ (.int .i64 m)) := ⟨_, rfl⟩
      have hBX1 : Boxy w5 wD := by rw [heD]; exact boxy
      have hBW1 : Below w.heap.size w wD := by rw [heD]; exact bel
      have hsE1 : wD.heap.size = w5.heap.size := by rw [heD]; simp [World.setCell]
      rw [← heD]
      clear heD
      have hBX : Boxy w5 wD := hBX1
      have hBW : Below w.heap.size w wD := hBW1
      have hsE : w5.heap.size ≤ wD.heap.size := (by first | omega | (simp; omega))
      generalize wD = wE at *
      have hr1 := unhide HR
      have ha1 := unhide HA
      have hOW : OwnW wE w.heap.size wE.heap.size B1 e1 B2q e2 B3 e3 E4 g4 B5 e5 (PDraft.mk d1 f1 ss1 d2 f2 ss2 st) Pq pp := OwnW.mk3 (ho_x_w5.boxy hBX) HPQ.out (ho_q_w5.boxy hBX) (ho_z_w5.boxy hBX) (by omega) (by omega)
      exact uwb_cast HR4.out ⟨B1, e1, B2q, e2, B3, e3, E4, g4, B5, e5, rfl, hOW, hBW⟩
end Go.Proofs.YtdddglihomchfaaGreat
namespace Go.Proofs.YtdddglihomchfaaGreat
open Go.ChangeShapes Go.WideShapes Go.ChangeAt Go.RowKit
set_option linter.unusedVariables false
set_option linter.unusedSimpArgs false
set_option maxRecDepth 10000
set_option maxHeartbeats 1600000 in
theorem i_ForgetCard (d1 f1 : Int) (ss1 : List ByteArray) (d2 f2 : Int) (ss2 : List ByteArray) (st : List PStep) (P : List PItem) (pp : List PPaper) (m : Int) (nm : ByteArray) (B : Nat) (A1 A2 A3 A4 A5 : Option Addr) (c1 c2 c3 c4 c5 : Nat) (w : World) (hS : RdWork w B A1 A2 A3 A4 c4 A5 ⟨d1, f1, ss1, d2, f2, ss2, st⟩ P pp) (hB : B ≤ w.heap.size) (hok : OkWork (PDraft.mk d1 f1 ss1 d2 f2 ss2 st) P pp 1048576) :
    Calls Tryz.prog 39 #[.agg #[.int .i64 d1, .int .i64 f1, .slice A1 ss1.length c1, .int .i64 d2, .int .i64 f2, .slice A2 ss2.length c2, .slice A3 st.length c3, .slice A4 P.length c4, .slice A5 pp.length c5, .int .i64 m], .string nm] w (UWorkB (forgetRes (PWork.mk (PDraft.mk d1 f1 ss1 d2 f2 ss2 st) P pp m) nm).1.D.d1 (forgetRes (PWork.mk (PDraft.mk d1 f1 ss1 d2 f2 ss2 st) P pp m) nm).1.D.f1 (forgetRes (PWork.mk (PDraft.mk d1 f1 ss1 d2 f2 ss2 st) P pp m) nm).1.D.ss1 (forgetRes (PWork.mk (PDraft.mk d1 f1 ss1 d2 f2 ss2 st) P pp m) nm).1.D.d2 (forgetRes (PWork.mk (PDraft.mk d1 f1 ss1 d2 f2 ss2 st) P pp m) nm).1.D.f2 (forgetRes (PWork.mk (PDraft.mk d1 f1 ss1 d2 f2 ss2 st) P pp m) nm).1.D.ss2 (forgetRes (PWork.mk (PDraft.mk d1 f1 ss1 d2 f2 ss2 st) P pp m) nm).1.D.st (forgetRes (PWork.mk (PDraft.mk d1 f1 ss1 d2 f2 ss2 st) P pp m) nm).1.P (forgetRes (PWork.mk (PDraft.mk d1 f1 ss1 d2 f2 ss2 st) P pp m) nm).1.pp (forgetRes (PWork.mk (PDraft.mk d1 f1 ss1 d2 f2 ss2 st) P pp m) nm).1.m (forgetRes (PWork.mk (PDraft.mk d1 f1 ss1 d2 f2 ss2 st) P pp m) nm).2 w) := by
  obtain ⟨L0, hpl, hL0⟩ := hS.i
  have HPL := Lib.hid hpl
  clear hpl
  have hcall := fun (W : World) (hW : Below w.heap.size w W) => i_DropItem nm P B A4 P.length c4 L0 W HPL.out (hL0.below (hW.mono hB)) (Nat.le_trans hB hW.size)
  have hokX := dropped_ok P nm 1048576 hok.i
  have hyes := fun h => forget_yes (W := (PWork.mk (PDraft.mk d1 f1 ss1 d2 f2 ss2 st) P pp m)) (nm := nm) h
  have hno := fun h => forget_no (W := (PWork.mk (PDraft.mk d1 f1 ss1 d2 f2 ss2 st) P pp m)) (nm := nm) h
  simp only at hyes hno
  generalize forgetRes (PWork.mk (PDraft.mk d1 f1 ss1 d2 f2 ss2 st) P pp m) nm = R at *
  generalize (dropped P nm) = q at *
  obtain ⟨Pq, bq⟩ := q
  simp only at hcall hokX hyes hno
  have HCALL := hide hcall
  have HOKX := hide hokX
  have HOK := hide hok
  clear hcall hokX hok
  cases hc : (bq && (workOk (PWork.mk (PDraft.mk d1 f1 ss1 d2 f2 ss2 st) P pp m) && workOk (PWork.mk (PDraft.mk d1 f1 ss1 d2 f2 ss2 st) Pq pp m)))
  case true =>
    obtain ⟨rfl, hw1, hw2, hr4⟩ := hyes hc
    have HW1 := Lib.hid hw1
    have HW2 := Lib.hid hw2
    have HR4 := Lib.hid hr4
    clear hw1 hw2 hr4 hyes hno hc
    go_enter Tryz.func39, Tryz.ntmps39
    go_wp2_with fail
    obtain ⟨w1, he_w1⟩ : ∃ x, x = ((w.alloc (.cells #[.int .i64 d1, .int .i64 f1, .slice A1 ss1.length c1, .int .i64 d2, .int .i64 f2, .slice A2 ss2.length c2, .slice A3 st.length c3, .slice A4 P.length c4, .slice A5 pp.length c5, .int .i64 m] 41)).alloc (.cells #[.int .i64 0, .int .i64 0, .slice none 0 0, .int .i64 0, .int .i64 0, .slice none 0 0, .slice none 0 0, .slice none 0 0, .slice none 0 0, .int .i64 0] 41)) := ⟨_, rfl⟩
    have hk_a_w1 : w1.heap[w.heap.size]? = some (.cells #[.int .i64 d1, .int .i64 f1, .slice A1 ss1.length c1, .int .i64 d2, .int .i64 f2, .slice A2 ss2.length c2, .slice A3 st.length c3, .slice A4 P.length c4, .slice A5 pp.length c5, .int .i64 m] 41 (0, 0)) := by rw [he_w1]; exact (blk_alloc (blk_new_at w (.cells #[.int .i64 d1, .int .i64 f1, .slice A1 ss1.length c1, .int .i64 d2, .int .i64 f2, .slice A2 ss2.length c2, .slice A3 st.length c3, .slice A4 P.length c4, .slice A5 pp.length c5, .int .i64 m] 41) (k := w.heap.size) (by simp [World.setCell])) _)
    have hk_r_w1 : w1.heap[w.heap.size + 1]? = some (.cells #[.int .i64 0, .int .i64 0, .slice none 0 0, .int .i64 0, .int .i64 0, .slice none 0 0, .slice none 0 0, .slice none 0 0, .slice none 0 0, .int .i64 0] 41 (0, 0)) := by rw [he_w1]; exact (blk_new_at (w.alloc (.cells #[.int .i64 d1, .int .i64 f1, .slice A1 ss1.length c1, .int .i64 d2, .int .i64 f2, .slice A2 ss2.length c2, .slice A3 st.length c3, .slice A4 P.length c4, .slice A5 pp.length c5, .int .i64 m] 41)) (.cells #[.int .i64 0, .int .i64 0, .slice none 0 0, .int .i64 0, .int .i64 0, .slice none 0 0, .slice none 0 0, .slice none 0 0, .slice none 0 0, .int .i64 0] 41) (k := w.heap.size + 1) (by simp [World.setCell]))
    have hbw_w1 : Below w.heap.size w w1 := by rw [he_w1]; exact bel
    have hsw_w1 := hbw_w1.size
    have hch_w1 : w.heap.size ≤ w1.heap.size := by rw [he_w1]; simp [World.setCell]; try omega
    rw [← he_w1]
    clear he_w1
    refine (i_workCopied d1 f1 ss1 d2 f2 ss2 st P pp m B A1 A2 A3 A4 A5 c1 c2 c3 c4 c5 w1 (hS.below (hbw_w1.mono hB)) (Nat.le_trans hB hsw_w1)).mono ?_
    rintro e w2 ⟨B1, e1, B2q, e2, B3, e3, B4, e4, B5, e5, rfl, hon, hb_w2⟩
    obtain ⟨l1, h1_, l2, h2_, l3, h3_, L4, hr, ha, hx, hp4, hy, hz⟩ := hon.all
    have HP4 := Lib.hid hp4
    have HR := hide hr
    have HA := hide ha
    clear hon hr ha hp4
    have hk_a_w2 := blk_next hk_a_w1 hb_w2
    have hk_r_w2 := blk_next hk_r_w1 hb_w2
    have hbw_w2 : Below w.heap.size w w2 := hbw_w1.trans (hb_w2.mono hsw_w1)
    have hsw_w2 := hbw_w2.size
    have hch_w2 : w1.heap.size ≤ w2.heap.size := hb_w2.size
    clear hk_a_w1 hk_r_w1 hbw_w1 hsw_w1 hb_w2
    have ho_x_w2 := hx
    clear hx
    have ho_y_w2 := hy
    clear hy
    have ho_z_w2 := hz
    clear hz
    obtain ⟨x0_a, x1_a, x2_a, x3_a, x4_a, x5_a, x6_a, x7_a, x8_a, x9_a, xl_a⟩ := blk10 hk_a_w2
    go_wp2_with fail
    clear x0_a x1_a x2_a x3_a x4_a x5_a x6_a x7_a x8_a x9_a xl_a
    have hl_a := blk_lt hk_a_w2
    have hl_r := blk_lt hk_r_w2
    have hlt_a_w3 := blk_lt hk_a_w2
    have hlt_r_w3 := blk_lt hk_r_w2
    obtain ⟨w3, he_w3⟩ : ∃ x, x = (w2.alloc (.cells #[.int .i64 d1, .int .i64 f1, .slice B1 ss1.length e1, .int .i64 d2, .int .i64 f2, .slice B2q ss2.length e2, .slice B3 st.length e3, .slice B4 P.length e4, .slice B5 pp.length e5, .int .i64 m] 41)) := ⟨_, rfl⟩
    have hk_a_w3 : w3.heap[w.heap.size]? = some (.cells #[.int .i64 d1, .int .i64 f1, .slice A1 ss1.length c1, .int .i64 d2, .int .i64 f2, .slice A2 ss2.length c2, .slice A3 st.length c3, .slice A4 P.length c4, .slice A5 pp.length c5, .int .i64 m] 41 (0, 0)) := by rw [he_w3]; exact (blk_alloc hk_a_w2 _)
    have hk_r_w3 : w3.heap[w.heap.size + 1]? = some (.cells #[.int .i64 0, .int .i64 0, .slice none 0 0, .int .i64 0, .int .i64 0, .slice none 0 0, .slice none 0 0, .slice none 0 0, .slice none 0 0, .int .i64 0] 41 (0, 0)) := by rw [he_w3]; exact (blk_alloc hk_r_w2 _)
    have hk_o_w3 : w3.heap[w2.heap.size]? = some (.cells #[.int .i64 d1, .int .i64 f1, .slice B1 ss1.length e1, .int .i64 d2, .int .i64 f2, .slice B2q ss2.length e2, .slice B3 st.length e3, .slice B4 P.length e4, .slice B5 pp.length e5, .int .i64 m] 41 (0, 0)) := by rw [he_w3]; exact (blk_new_at w2 (.cells #[.int .i64 d1, .int .i64 f1, .slice B1 ss1.length e1, .int .i64 d2, .int .i64 f2, .slice B2q ss2.length e2, .slice B3 st.length e3, .slice B4 P.length e4, .slice B5 pp.length e5, .int .i64 m] 41) (k := w2.heap.size) (by simp [World.setCell]))
    have hBX : Boxy w2 w3 := by rw [he_w3]; exact boxy
    have ho_x_w3 := ho_x_w2.boxy hBX
    have ho_y_w3 := ho_y_w2.boxy hBX
    have ho_z_w3 := ho_z_w2.boxy hBX
    have hbw_w3 : Below w.heap.size w w3 := by rw [he_w3]; exact bel
    have hsw_w3 := hbw_w3.size
    have hch_w3 : w2.heap.size ≤ w3.heap.size := by rw [he_w3]; simp [World.setCell]; try omega
    rw [← he_w3]
    clear hk_a_w2 hk_r_w2 ho_x_w2 ho_y_w2 ho_z_w2 hl_a hl_r hBX hbw_w2 hsw_w2 he_w3
    refine (unhide HCALL _ hbw_w3).mono ?_
    rintro e w4 ⟨E4, g4, LQ, rfl, hpq, hon2, hb_w4⟩
    have HPQ := Lib.hid hpq
    clear hpq
    have hk_a_w4 := blk_next hk_a_w3 hb_w4
    have hk_r_w4 := blk_next hk_r_w3 hb_w4
    have hk_o_w4 := blk_next hk_o_w3 hb_w4
    have ho_x_w4 := ho_x_w3.below hb_w4
    have ho_y_w4 := ho_y_w3.below hb_w4
    have ho_z_w4 := ho_z_w3.below hb_w4
    have hbw_w4 : Below w.heap.size w w4 := hbw_w3.trans (hb_w4.mono hsw_w3)
    have hsw_w4 := hbw_w4.size
    have hch_w4 : w3.heap.size ≤ w4.heap.size := hb_w4.size
    clear hk_a_w3 hk_r_w3 hk_o_w3 ho_x_w3 ho_y_w3 ho_z_w3 hbw_w3 hsw_w3 hb_w4
    have ho_q_w4 := hon2
    clear hon2
    clear ho_y_w4
    obtain ⟨x0_a, x1_a, x2_a, x3_a, x4_a, x5_a, x6_a, x7_a, x8_a, x9_a, xl_a⟩ := blk10 hk_a_w4
    obtain ⟨x0_o, x1_o, x2_o, x3_o, x4_o, x5_o, x6_o, x7_o, x8_o, x9_o, xl_o⟩ := blk10 hk_o_w4
    have f0_o := (blk_cells hk_o_w4 0).2
    have f1_o := (blk_cells hk_o_w4 1).2
    have f2_o := (blk_cells hk_o_w4 2).2
    have f3_o := (blk_cells hk_o_w4 3).2
    have f4_o := (blk_cells hk_o_w4 4).2
    have f5_o := (blk_cells hk_o_w4 5).2
    have f6_o := (blk_cells hk_o_w4 6).2
    have f7_o := (blk_cells hk_o_w4 7).2
    have f8_o := (blk_cells hk_o_w4 8).2
    have f9_o := (blk_cells hk_o_w4 9).2
    go_wp2_with fail
    clear x0_a x1_a x2_a x3_a x4_a x5_a x6_a x7_a x8_a x9_a xl_a x0_o x1_o x2_o x3_o x4_o x5_o x6_o x7_o x8_o x9_o xl_o f0_o f1_o f2_o f3_o f4_o f5_o f6_o f7_o f8_o f9_o
    have hl_a := blk_lt hk_a_w4
    have hl_r := blk_lt hk_r_w4
    have hl_o := blk_lt hk_o_w4
    have hbx_o := boxAt_of hk_o_w4
    obtain ⟨w5, he_w5⟩ : ∃ x, x = (w4.setCell ⟨w2.heap.size, 7, none⟩ (.slice E4 Pq.length g4)) := ⟨_, rfl⟩
    have hk_a_w5 : w5.heap[w.heap.size]? = some (.cells #[.int .i64 d1, .int .i64 f1, .slice A1 ss1.length c1, .int .i64 d2, .int .i64 f2, .slice A2 ss2.length c2, .slice A3 st.length c3, .slice A4 P.length c4, .slice A5 pp.length c5, .int .i64 m] 41 (0, 0)) := by rw [he_w5]; exact (blk_other (p := ⟨w2.heap.size, 7, none⟩) hk_a_w4 (show ¬ w.heap.size = w2.heap.size by omega) (.slice E4 Pq.length g4))
    have hk_r_w5 : w5.heap[w.heap.size + 1]? = some (.cells #[.int .i64 0, .int .i64 0, .slice none 0 0, .int .i64 0, .int .i64 0, .slice none 0 0, .slice none 0 0, .slice none 0 0, .slice none 0 0, .int .i64 0] 41 (0, 0)) := by rw [he_w5]; exact (blk_other (p := ⟨w2.heap.size, 7, none⟩) hk_r_w4 (show ¬ w.heap.size + 1 = w2.heap.size by omega) (.slice E4 Pq.length g4))
    have hk_o_w5 : w5.heap[w2.heap.size]? = some (.cells #[.int .i64 d1, .int .i64 f1, .slice B1 ss1.length e1, .int .i64 d2, .int .i64 f2, .slice B2q ss2.length e2, .slice B3 st.length e3, .slice E4 Pq.length g4, .slice B5 pp.length e5, .int .i64 m] 41 (0, 0)) := by rw [he_w5]; have hq9 := (blk_set hk_o_w4 7 (.slice E4 Pq.length g4)); simpa using hq9
    have hBX : Boxy w4 w5 := by rw [he_w5]; exact boxy
    have ho_x_w5 := ho_x_w4.boxy hBX
    have ho_z_w5 := ho_z_w4.boxy hBX
    have ho_q_w5 := ho_q_w4.boxy hBX
    have hbw_w5 : Below w.heap.size w w5 := by rw [he_w5]; exact bel
    have hsw_w5 := hbw_w5.size
    have hch_w5 : w4.heap.size ≤ w5.heap.size := by rw [he_w5]; simp [World.setCell]; try omega
    rw [← he_w5]
    clear hk_a_w4 hk_r_w4 hk_o_w4 ho_x_w4 ho_z_w4 ho_q_w4 hl_a hl_r hl_o hbx_o hBX hbw_w4 hsw_w4 he_w5
    refine (i_wchanged_yes d1 f1 ss1 d2 f2 ss2 st P pp m d1 f1 ss1 d2 f2 ss2 st Pq pp m A1 A2 A3 A4 A5 c1 c2 c3 c4 c5 B1 B2q B3 E4 B5 e1 e2 e3 g4 e5 B w5.heap.size w5 (hS.below (hbw_w5.mono hB)) (Nat.le_trans hB hsw_w5) ⟨ho_x_w5.rd ((unhide HOK).d.more (by omega)), ⟨LQ, HPQ.out, ho_q_w5.rdP HPQ.out ((unhide HOKX).more (by omega))⟩, ho_z_w5.rd (by have := (unhide HOK).p; omega), own_capU ho_q_w5.row⟩ (Nat.le_refl _) HW1.out HW2.out).mono ?_
    rintro e w6 ⟨rfl, hb_w6⟩
    have hk_a_w6 := blk_next hk_a_w5 hb_w6
    have hk_r_w6 := blk_next hk_r_w5 hb_w6
    have hk_o_w6 := blk_next hk_o_w5 hb_w6
    have ho_x_w6 := ho_x_w5.below hb_w6
    have ho_z_w6 := ho_z_w5.below hb_w6
    have ho_q_w6 := ho_q_w5.below hb_w6
    have hbw_w6 : Below w.heap.size w w6 := hbw_w5.trans (hb_w6.mono hsw_w5)
    have hsw_w6 := hbw_w6.size
    have hch_w6 : w5.heap.size ≤ w6.heap.size := hb_w6.size
    clear hk_a_w5 hk_r_w5 hk_o_w5 ho_x_w5 ho_z_w5 ho_q_w5 hbw_w5 hsw_w5 hb_w6
    obtain ⟨x0_r, x1_r, x2_r, x3_r, x4_r, x5_r, x6_r, x7_r, x8_r, x9_r, xl_r⟩ := blk10 hk_r_w6
    have f0_r := (blk_cells hk_r_w6 0).2
    have f1_r := (blk_cells hk_r_w6 1).2
    have f2_r := (blk_cells hk_r_w6 2).2
    have f3_r := (blk_cells hk_r_w6 3).2
    have f4_r := (blk_cells hk_r_w6 4).2
    have f5_r := (blk_cells hk_r_w6 5).2
    have f6_r := (blk_cells hk_r_w6 6).2
    have f7_r := (blk_cells hk_r_w6 7).2
    have f8_r := (blk_cells hk_r_w6 8).2
    have f9_r := (blk_cells hk_r_w6 9).2
    go_wp2
    have hbx_r := boxAt_of hk_r_w6
    refine bodyPost_ret (v := .tuple #[.agg #[.int .i64 d1, .int .i64 f1, .slice B1 ss1.length e1, .int .i64 d2, .int .i64 f2, .slice B2q ss2.length e2, .slice B3 st.length e3, .slice E4 Pq.length g4, .slice B5 pp.length e5, .int .i64 m], .bool true]) (by simp [results, Tryz.results39, go_sem, *]) rfl ?_
    clear x0_r x1_r x2_r x3_r x4_r x5_r x6_r x7_r x8_r x9_r xl_r f0_r f1_r f2_r f3_r f4_r f5_r f6_r f7_r f8_r f9_r
    obtain ⟨wE, heE⟩ : ∃ x, x = ((((((((((w6.setCell ⟨w.heap.size + 1, 0, none⟩ (.int .i64 d1)).setCell ⟨w.heap.size + 1, 1, none⟩ (.int .i64 f1)).setCell ⟨w.heap.size + 1, 2, none⟩ (.slice B1 ss1.length e1)).setCell ⟨w.heap.size + 1, 3, none⟩ (.int .i64 d2)).setCell ⟨w.heap.size + 1, 4, none⟩ (.int .i64 f2)).setCell ⟨w.heap.size + 1, 5, none⟩ (.slice B2q ss2.length e2)).setCell ⟨w.heap.size + 1, 6, none⟩ (.slice B3 st.length e3)).setCell ⟨w.heap.size + 1, 7, none⟩ (.slice E4 Pq.length g4)).setCell ⟨w.heap.size + 1, 8, none⟩ (.slice B5 pp.length e5)).setCell ⟨w.heap.size + 1, 9, none⟩ (.int .i64 m)) := ⟨_, rfl⟩
    have hBX : Boxy w6 wE := by rw [heE]; exact boxy
    have hBW : Below w.heap.size w wE := by rw [heE]; exact bel
    have hsE : wE.heap.size = w6.heap.size := by rw [heE]; simp [World.setCell]
    rw [← heE]
    clear heE
    have hr1 := unhide HR
    have ha1 := unhide HA
    have hOW : OwnW wE w.heap.size wE.heap.size B1 e1 B2q e2 B3 e3 E4 g4 B5 e5 (PDraft.mk d1 f1 ss1 d2 f2 ss2 st) Pq pp := OwnW.mk3 (ho_x_w6.boxy hBX) HPQ.out (ho_q_w6.boxy hBX) (ho_z_w6.boxy hBX) (by omega) (by omega)
    exact uwb_cast HR4.out ⟨B1, e1, B2q, e2, B3, e3, E4, g4, B5, e5, rfl, hOW, hBW⟩
  case false =>
    have hr4 := hno hc
    have HR4 := Lib.hid hr4
    have HN := Lib.hid hc
    clear hr4 hyes hno hc
    go_enter Tryz.func39, Tryz.ntmps39
    go_wp2_with fail
    obtain ⟨w1, he_w1⟩ : ∃ x, x = ((w.alloc (.cells #[.int .i64 d1, .int .i64 f1, .slice A1 ss1.length c1, .int .i64 d2, .int .i64 f2, .slice A2 ss2.length c2, .slice A3 st.length c3, .slice A4 P.length c4, .slice A5 pp.length c5, .int .i64 m] 41)).alloc (.cells #[.int .i64 0, .int .i64 0, .slice none 0 0, .int .i64 0, .int .i64 0, .slice none 0 0, .slice none 0 0, .slice none 0 0, .slice none 0 0, .int .i64 0] 41)) := ⟨_, rfl⟩
    have hk_a_w1 : w1.heap[w.heap.size]? = some (.cells #[.int .i64 d1, .int .i64 f1, .slice A1 ss1.length c1, .int .i64 d2, .int .i64 f2, .slice A2 ss2.length c2, .slice A3 st.length c3, .slice A4 P.length c4, .slice A5 pp.length c5, .int .i64 m] 41 (0, 0)) := by rw [he_w1]; exact (blk_alloc (blk_new_at w (.cells #[.int .i64 d1, .int .i64 f1, .slice A1 ss1.length c1, .int .i64 d2, .int .i64 f2, .slice A2 ss2.length c2, .slice A3 st.length c3, .slice A4 P.length c4, .slice A5 pp.length c5, .int .i64 m] 41) (k := w.heap.size) (by simp [World.setCell])) _)
    have hk_r_w1 : w1.heap[w.heap.size + 1]? = some (.cells #[.int .i64 0, .int .i64 0, .slice none 0 0, .int .i64 0, .int .i64 0, .slice none 0 0, .slice none 0 0, .slice none 0 0, .slice none 0 0, .int .i64 0] 41 (0, 0)) := by rw [he_w1]; exact (blk_new_at (w.alloc (.cells #[.int .i64 d1, .int .i64 f1, .slice A1 ss1.length c1, .int .i64 d2, .int .i64 f2, .slice A2 ss2.length c2, .slice A3 st.length c3, .slice A4 P.length c4, .slice A5 pp.length c5, .int .i64 m] 41)) (.cells #[.int .i64 0, .int .i64 0, .slice none 0 0, .int .i64 0, .int .i64 0, .slice none 0 0, .slice none 0 0, .slice none 0 0, .slice none 0 0, .int .i64 0] 41) (k := w.heap.size + 1) (by simp [World.setCell]))
    have hbw_w1 : Below w.heap.size w w1 := by rw [he_w1]; exact bel
    have hsw_w1 := hbw_w1.size
    have hch_w1 : w.heap.size ≤ w1.heap.size := by rw [he_w1]; simp [World.setCell]; try omega
    rw [← he_w1]
    clear he_w1
    refine (i_workCopied d1 f1 ss1 d2 f2 ss2 st P pp m B A1 A2 A3 A4 A5 c1 c2 c3 c4 c5 w1 (hS.below (hbw_w1.mono hB)) (Nat.le_trans hB hsw_w1)).mono ?_
    rintro e w2 ⟨B1, e1, B2q, e2, B3, e3, B4, e4, B5, e5, rfl, hon, hb_w2⟩
    obtain ⟨l1, h1_, l2, h2_, l3, h3_, L4, hr, ha, hx, hp4, hy, hz⟩ := hon.all
    have HP4 := Lib.hid hp4
    have HR := hide hr
    have HA := hide ha
    clear hon hr ha hp4
    have hk_a_w2 := blk_next hk_a_w1 hb_w2
    have hk_r_w2 := blk_next hk_r_w1 hb_w2
    have hbw_w2 : Below w.heap.size w w2 := hbw_w1.trans (hb_w2.mono hsw_w1)
    have hsw_w2 := hbw_w2.size
    have hch_w2 : w1.heap.size ≤ w2.heap.size := hb_w2.size
    clear hk_a_w1 hk_r_w1 hbw_w1 hsw_w1 hb_w2
    have ho_x_w2 := hx
    clear hx
    have ho_y_w2 := hy
    clear hy
    have ho_z_w2 := hz
    clear hz
    obtain ⟨x0_a, x1_a, x2_a, x3_a, x4_a, x5_a, x6_a, x7_a, x8_a, x9_a, xl_a⟩ := blk10 hk_a_w2
    go_wp2_with fail
    clear x0_a x1_a x2_a x3_a x4_a x5_a x6_a x7_a x8_a x9_a xl_a
    have hl_a := blk_lt hk_a_w2
    have hl_r := blk_lt hk_r_w2
    have hlt_a_w3 := blk_lt hk_a_w2
    have hlt_r_w3 := blk_lt hk_r_w2
    obtain ⟨w3, he_w3⟩ : ∃ x, x = (w2.alloc (.cells #[.int .i64 d1, .int .i64 f1, .slice B1 ss1.length e1, .int .i64 d2, .int .i64 f2, .slice B2q ss2.length e2, .slice B3 st.length e3, .slice B4 P.length e4, .slice B5 pp.length e5, .int .i64 m] 41)) := ⟨_, rfl⟩
    have hk_a_w3 : w3.heap[w.heap.size]? = some (.cells #[.int .i64 d1, .int .i64 f1, .slice A1 ss1.length c1, .int .i64 d2, .int .i64 f2, .slice A2 ss2.length c2, .slice A3 st.length c3, .slice A4 P.length c4, .slice A5 pp.length c5, .int .i64 m] 41 (0, 0)) := by rw [he_w3]; exact (blk_alloc hk_a_w2 _)
    have hk_r_w3 : w3.heap[w.heap.size + 1]? = some (.cells #[.int .i64 0, .int .i64 0, .slice none 0 0, .int .i64 0, .int .i64 0, .slice none 0 0, .slice none 0 0, .slice none 0 0, .slice none 0 0, .int .i64 0] 41 (0, 0)) := by rw [he_w3]; exact (blk_alloc hk_r_w2 _)
    have hk_o_w3 : w3.heap[w2.heap.size]? = some (.cells #[.int .i64 d1, .int .i64 f1, .slice B1 ss1.length e1, .int .i64 d2, .int .i64 f2, .slice B2q ss2.length e2, .slice B3 st.length e3, .slice B4 P.length e4, .slice B5 pp.length e5, .int .i64 m] 41 (0, 0)) := by rw [he_w3]; exact (blk_new_at w2 (.cells #[.int .i64 d1, .int .i64 f1, .slice B1 ss1.length e1, .int .i64 d2, .int .i64 f2, .slice B2q ss2.length e2, .slice B3 st.length e3, .slice B4 P.length e4, .slice B5 pp.length e5, .int .i64 m] 41) (k := w2.heap.size) (by simp [World.setCell]))
    have hBX : Boxy w2 w3 := by rw [he_w3]; exact boxy
    have ho_x_w3 := ho_x_w2.boxy hBX
    have ho_y_w3 := ho_y_w2.boxy hBX
    have ho_z_w3 := ho_z_w2.boxy hBX
    have hbw_w3 : Below w.heap.size w w3 := by rw [he_w3]; exact bel
    have hsw_w3 := hbw_w3.size
    have hch_w3 : w2.heap.size ≤ w3.heap.size := by rw [he_w3]; simp [World.setCell]; try omega
    rw [← he_w3]
    clear hk_a_w2 hk_r_w2 ho_x_w2 ho_y_w2 ho_z_w2 hl_a hl_r hBX hbw_w2 hsw_w2 he_w3
    refine (unhide HCALL _ hbw_w3).mono ?_
    rintro e w4 ⟨E4, g4, LQ, rfl, hpq, hon2, hb_w4⟩
    have HPQ := Lib.hid hpq
    clear hpq
    have hk_a_w4 := blk_next hk_a_w3 hb_w4
    have hk_r_w4 := blk_next hk_r_w3 hb_w4
    have hk_o_w4 := blk_next hk_o_w3 hb_w4
    have ho_x_w4 := ho_x_w3.below hb_w4
    have ho_y_w4 := ho_y_w3.below hb_w4
    have ho_z_w4 := ho_z_w3.below hb_w4
    have hbw_w4 : Below w.heap.size w w4 := hbw_w3.trans (hb_w4.mono hsw_w3)
    have hsw_w4 := hbw_w4.size
    have hch_w4 : w3.heap.size ≤ w4.heap.size := hb_w4.size
    clear hk_a_w3 hk_r_w3 hk_o_w3 ho_x_w3 ho_y_w3 ho_z_w3 hbw_w3 hsw_w3 hb_w4
    have ho_q_w4 := hon2
    clear hon2
    clear ho_y_w4
    obtain ⟨x0_a, x1_a, x2_a, x3_a, x4_a, x5_a, x6_a, x7_a, x8_a, x9_a, xl_a⟩ := blk10 hk_a_w4
    obtain ⟨x0_o, x1_o, x2_o, x3_o, x4_o, x5_o, x6_o, x7_o, x8_o, x9_o, xl_o⟩ := blk10 hk_o_w4
    have f0_o := (blk_cells hk_o_w4 0).2
    have f1_o := (blk_cells hk_o_w4 1).2
    have f2_o := (blk_cells hk_o_w4 2).2
    have f3_o := (blk_cells hk_o_w4 3).2
    have f4_o := (blk_cells hk_o_w4 4).2
    have f5_o := (blk_cells hk_o_w4 5).2
    have f6_o := (blk_cells hk_o_w4 6).2
    have f7_o := (blk_cells hk_o_w4 7).2
    have f8_o := (blk_cells hk_o_w4 8).2
    have f9_o := (blk_cells hk_o_w4 9).2
    go_wp2_with fail
    clear x0_a x1_a x2_a x3_a x4_a x5_a x6_a x7_a x8_a x9_a xl_a x0_o x1_o x2_o x3_o x4_o x5_o x6_o x7_o x8_o x9_o xl_o f0_o f1_o f2_o f3_o f4_o f5_o f6_o f7_o f8_o f9_o
    have hl_a := blk_lt hk_a_w4
    have hl_r := blk_lt hk_r_w4
    have hl_o := blk_lt hk_o_w4
    have hbx_o := boxAt_of hk_o_w4
    obtain ⟨w5, he_w5⟩ : ∃ x, x = (w4.setCell ⟨w2.heap.size, 7, none⟩ (.slice E4 Pq.length g4)) := ⟨_, rfl⟩
    have hk_a_w5 : w5.heap[w.heap.size]? = some (.cells #[.int .i64 d1, .int .i64 f1, .slice A1 ss1.length c1, .int .i64 d2, .int .i64 f2, .slice A2 ss2.length c2, .slice A3 st.length c3, .slice A4 P.length c4, .slice A5 pp.length c5, .int .i64 m] 41 (0, 0)) := by rw [he_w5]; exact (blk_other (p := ⟨w2.heap.size, 7, none⟩) hk_a_w4 (show ¬ w.heap.size = w2.heap.size by omega) (.slice E4 Pq.length g4))
    have hk_r_w5 : w5.heap[w.heap.size + 1]? = some (.cells #[.int .i64 0, .int .i64 0, .slice none 0 0, .int .i64 0, .int .i64 0, .slice none 0 0, .slice none 0 0, .slice none 0 0, .slice none 0 0, .int .i64 0] 41 (0, 0)) := by rw [he_w5]; exact (blk_other (p := ⟨w2.heap.size, 7, none⟩) hk_r_w4 (show ¬ w.heap.size + 1 = w2.heap.size by omega) (.slice E4 Pq.length g4))
    have hk_o_w5 : w5.heap[w2.heap.size]? = some (.cells #[.int .i64 d1, .int .i64 f1, .slice B1 ss1.length e1, .int .i64 d2, .int .i64 f2, .slice B2q ss2.length e2, .slice B3 st.length e3, .slice E4 Pq.length g4, .slice B5 pp.length e5, .int .i64 m] 41 (0, 0)) := by rw [he_w5]; have hq9 := (blk_set hk_o_w4 7 (.slice E4 Pq.length g4)); simpa using hq9
    have hBX : Boxy w4 w5 := by rw [he_w5]; exact boxy
    have ho_x_w5 := ho_x_w4.boxy hBX
    have ho_z_w5 := ho_z_w4.boxy hBX
    have ho_q_w5 := ho_q_w4.boxy hBX
    have hbw_w5 : Below w.heap.size w w5 := by rw [he_w5]; exact bel
    have hsw_w5 := hbw_w5.size
    have hch_w5 : w4.heap.size ≤ w5.heap.size := by rw [he_w5]; simp [World.setCell]; try omega
    rw [← he_w5]
    clear hk_a_w4 hk_r_w4 hk_o_w4 ho_x_w4 ho_z_w4 ho_q_w4 hl_a hl_r hl_o hbx_o hBX hbw_w4 hsw_w4 he_w5
    refine (i_wchanged_no d1 f1 ss1 d2 f2 ss2 st P pp m d1 f1 ss1 d2 f2 ss2 st Pq pp m A1 A2 A3 A4 A5 c1 c2 c3 c4 c5 B1 B2q B3 E4 B5 e1 e2 e3 g4 e5 bq B w5.heap.size w5 (hS.below (hbw_w5.mono hB)) (Nat.le_trans hB hsw_w5) ⟨ho_x_w5.rd ((unhide HOK).d.more (by omega)), ⟨LQ, HPQ.out, ho_q_w5.rdP HPQ.out ((unhide HOKX).more (by omega))⟩, ho_z_w5.rd (by have := (unhide HOK).p; omega), own_capU ho_q_w5.row⟩ (Nat.le_refl _) HN.out).mono ?_
    rintro e w6 ⟨G1, k1, G2, k2, G3, k3, G4, k4, G5, k5, rfl, hon3, hb_w6⟩
    have hk_a_w6 := blk_next hk_a_w5 hb_w6
    have hk_r_w6 := blk_next hk_r_w5 hb_w6
    have hk_o_w6 := blk_next hk_o_w5 hb_w6
    have ho_x_w6 := ho_x_w5.below hb_w6
    have ho_z_w6 := ho_z_w5.below hb_w6
    have ho_q_w6 := ho_q_w5.below hb_w6
    have hbw_w6 : Below w.heap.size w w6 := hbw_w5.trans (hb_w6.mono hsw_w5)
    have hsw_w6 := hbw_w6.size
    have hch_w6 : w5.heap.size ≤ w6.heap.size := hb_w6.size
    clear hk_a_w5 hk_r_w5 hk_o_w5 ho_x_w5 ho_z_w5 ho_q_w5 hbw_w5 hsw_w5 hb_w6
    have ho_n_w6 := hon3
    clear hon3
    clear ho_x_w6
    clear ho_z_w6
    clear ho_q_w6
    obtain ⟨x0_r, x1_r, x2_r, x3_r, x4_r, x5_r, x6_r, x7_r, x8_r, x9_r, xl_r⟩ := blk10 hk_r_w6
    have f0_r := (blk_cells hk_r_w6 0).2
    have f1_r := (blk_cells hk_r_w6 1).2
    have f2_r := (blk_cells hk_r_w6 2).2
    have f3_r := (blk_cells hk_r_w6 3).2
    have f4_r := (blk_cells hk_r_w6 4).2
    have f5_r := (blk_cells hk_r_w6 5).2
    have f6_r := (blk_cells hk_r_w6 6).2
    have f7_r := (blk_cells hk_r_w6 7).2
    have f8_r := (blk_cells hk_r_w6 8).2
    have f9_r := (blk_cells hk_r_w6 9).2
    go_wp2
    have hbx_r := boxAt_of hk_r_w6
    refine bodyPost_ret (v := .tuple #[.agg #[.int .i64 d1, .int .i64 f1, .slice G1 ss1.length k1, .int .i64 d2, .int .i64 f2, .slice G2 ss2.length k2, .slice G3 st.length k3, .slice G4 P.length k4, .slice G5 pp.length k5, .int .i64 m], .bool false]) (by simp [results, Tryz.results39, go_sem, *]) rfl ?_
    clear x0_r x1_r x2_r x3_r x4_r x5_r x6_r x7_r x8_r x9_r xl_r f0_r f1_r f2_r f3_r f4_r f5_r f6_r f7_r f8_r f9_r
    obtain ⟨wE, heE⟩ : ∃ x, x = ((((((((((w6.setCell ⟨w.heap.size + 1, 0, none⟩ (.int .i64 d1)).setCell ⟨w.heap.size + 1, 1, none⟩ (.int .i64 f1)).setCell ⟨w.heap.size + 1, 2, none⟩ (.slice G1 ss1.length k1)).setCell ⟨w.heap.size + 1, 3, none⟩ (.int .i64 d2)).setCell ⟨w.heap.size + 1, 4, none⟩ (.int .i64 f2)).setCell ⟨w.heap.size + 1, 5, none⟩ (.slice G2 ss2.length k2)).setCell ⟨w.heap.size + 1, 6, none⟩ (.slice G3 st.length k3)).setCell ⟨w.heap.size + 1, 7, none⟩ (.slice G4 P.length k4)).setCell ⟨w.heap.size + 1, 8, none⟩ (.slice G5 pp.length k5)).setCell ⟨w.heap.size + 1, 9, none⟩ (.int .i64 m)) := ⟨_, rfl⟩
    have hBX : Boxy w6 wE := by rw [heE]; exact boxy
    have hBW : Below w.heap.size w wE := by rw [heE]; exact bel
    have hsE : wE.heap.size = w6.heap.size := by rw [heE]; simp [World.setCell]
    rw [← heE]
    clear heE
    have hOW : OwnW wE w.heap.size wE.heap.size G1 k1 G2 k2 G3 k3 G4 k4 G5 k5 (PDraft.mk d1 f1 ss1 d2 f2 ss2 st) P pp := (ho_n_w6.boxy hBX).wide (by omega) (by omega)
    exact uwb_cast HR4.out ⟨G1, k1, G2, k2, G3, k3, G4, k4, G5, k5, rfl, hOW, hBW⟩
end Go.Proofs.YtdddglihomchfaaGreat
namespace Go.Proofs.YtdddglihomchfaaGreat
open Go.ChangeShapes Go.WideShapes Go.ChangeAt Go.RowKit
set_option linter.unusedVariables false
set_option linter.unusedSimpArgs false
set_option maxRecDepth 10000
theorem u_toPaperS (pp : List PPaper) (B : Nat) (A : Option Addr) (c : Nat) (w : World) (hS : Papers w B A pp.length pp) (hB : B ≤ w.heap.size) :
    Calls Tryz.prog 68 #[.slice A pp.length c] w fun e w' => ∃ A' c', e = .returned (.slice A' pp.length c') ∧ OwnP w' w.heap.size w'.heap.size A' c' pp ∧ Below w.heap.size w w' :=
  (l_toPaperS B A _ c pp w hS hB).mono fun _ _ h => by
    obtain ⟨A', c', he, ho, hb⟩ := h
    exact ⟨A', c', he, OwnP.of ho (Nat.le_refl _), hb⟩
theorem u_toItemS2 (P : List PItem) (B : Nat) (A : Option Addr) (c : Nat) (L : List RItem) (w : World) (hp : plI L = P) (hS : Items w B A P.length L) (hB : B ≤ w.heap.size) :
    Calls Tryz.prog 67 #[.slice A P.length c] w (UItems P w) := by
  have hl : L.length = P.length := hS.len
  have h := u_toItemS P B A c L w hp (by rw [hl]; exact hS) hB
  rw [hl] at h
  exact h
set_option maxHeartbeats 3200000 in
theorem u_toWorkshop (d1 f1 : Int) (ss1 : List ByteArray) (d2 f2 : Int) (ss2 : List ByteArray) (st : List PStep) (P : List PItem) (pp : List PPaper) (m : Int) (B : Nat) (A1 A2 A3 A4 A5 : Option Addr) (c1 c2 c3 c4 c5 : Nat) (w : World) (hS : RdWork0 w B A1 A2 A3 A4 A5 ⟨d1, f1, ss1, d2, f2, ss2, st⟩ P pp) (hB : B ≤ w.heap.size) :
    Calls Tryz.prog 17 #[.agg #[.int .i64 d1, .int .i64 f1, .slice A1 ss1.length c1, .int .i64 d2, .int .i64 f2, .slice A2 ss2.length c2, .slice A3 st.length c3, .slice A4 P.length c4, .slice A5 pp.length c5, .int .i64 m]] w (UWork d1 f1 ss1 d2 f2 ss2 st P pp m w) := by
  obtain ⟨L, hpl, hL⟩ := hS.i
  have HPL := Lib.hid hpl
  have hlen : L.length = P.length := hL.len
  clear hpl
  go_enter Tryz.func17, Tryz.ntmps17
  go_wp2_with fail
  have hb0 : Below w.heap.size w (((w.alloc (.cells #[.int .i64 d1, .int .i64 f1, .slice A1 ss1.length c1, .int .i64 d2, .int .i64 f2, .slice A2 ss2.length c2, .slice A3 st.length c3, .slice A4 P.length c4, .slice A5 pp.length c5, .int .i64 m] 31)).alloc (.cells #[.int .i64 0, .int .i64 0, .slice none 0 0, .int .i64 0, .int .i64 0, .slice none 0 0, .slice none 0 0, .slice none 0 0, .slice none 0 0, .int .i64 0] 41)).alloc (.cells #[.int .i64 0, .int .i64 0, .slice none 0 0, .int .i64 0, .int .i64 0, .slice none 0 0, .slice none 0 0, .slice none 0 0, .slice none 0 0, .int .i64 0] 41)) := (((Below.refl _ _).alloc (Nat.le_refl _) _).alloc (by simp) _).alloc (by simp; omega) _
  have hka : (((w.alloc (.cells #[.int .i64 d1, .int .i64 f1, .slice A1 ss1.length c1, .int .i64 d2, .int .i64 f2, .slice A2 ss2.length c2, .slice A3 st.length c3, .slice A4 P.length c4, .slice A5 pp.length c5, .int .i64 m] 31)).alloc (.cells #[.int .i64 0, .int .i64 0, .slice none 0 0, .int .i64 0, .int .i64 0, .slice none 0 0, .slice none 0 0, .slice none 0 0, .slice none 0 0, .int .i64 0] 41)).alloc (.cells #[.int .i64 0, .int .i64 0, .slice none 0 0, .int .i64 0, .int .i64 0, .slice none 0 0, .slice none 0 0, .slice none 0 0, .slice none 0 0, .int .i64 0] 41)).heap[w.heap.size]? = some (.cells #[.int .i64 d1, .int .i64 f1, .slice A1 ss1.length c1, .int .i64 d2, .int .i64 f2, .slice A2 ss2.length c2, .slice A3 st.length c3, .slice A4 P.length c4, .slice A5 pp.length c5, .int .i64 m] 31 (0, 0)) := blk_alloc (blk_alloc (blk_new _ _) _) _
  have hko : (((w.alloc (.cells #[.int .i64 d1, .int .i64 f1, .slice A1 ss1.length c1, .int .i64 d2, .int .i64 f2, .slice A2 ss2.length c2, .slice A3 st.length c3, .slice A4 P.length c4, .slice A5 pp.length c5, .int .i64 m] 31)).alloc (.cells #[.int .i64 0, .int .i64 0, .slice none 0 0, .int .i64 0, .int .i64 0, .slice none 0 0, .slice none 0 0, .slice none 0 0, .slice none 0 0, .int .i64 0] 41)).alloc (.cells #[.int .i64 0, .int .i64 0, .slice none 0 0, .int .i64 0, .int .i64 0, .slice none 0 0, .slice none 0 0, .slice none 0 0, .slice none 0 0, .int .i64 0] 41)).heap[w.heap.size + 1 + 1]? = some (.cells #[.int .i64 0, .int .i64 0, .slice none 0 0, .int .i64 0, .int .i64 0, .slice none 0 0, .slice none 0 0, .slice none 0 0, .slice none 0 0, .int .i64 0] 41 (0, 0)) := blk_new_at _ _ (by simp)
  have hkr : (((w.alloc (.cells #[.int .i64 d1, .int .i64 f1, .slice A1 ss1.length c1, .int .i64 d2, .int .i64 f2, .slice A2 ss2.length c2, .slice A3 st.length c3, .slice A4 P.length c4, .slice A5 pp.length c5, .int .i64 m] 31)).alloc (.cells #[.int .i64 0, .int .i64 0, .slice none 0 0, .int .i64 0, .int .i64 0, .slice none 0 0, .slice none 0 0, .slice none 0 0, .slice none 0 0, .int .i64 0] 41)).alloc (.cells #[.int .i64 0, .int .i64 0, .slice none 0 0, .int .i64 0, .int .i64 0, .slice none 0 0, .slice none 0 0, .slice none 0 0, .slice none 0 0, .int .i64 0] 41)).heap[w.heap.size + 1]? = some (.cells #[.int .i64 0, .int .i64 0, .slice none 0 0, .int .i64 0, .int .i64 0, .slice none 0 0, .slice none 0 0, .slice none 0 0, .slice none 0 0, .int .i64 0] 41 (0, 0)) := blk_alloc (blk_new_at _ _ (by simp)) _
  generalize (((w.alloc (.cells #[.int .i64 d1, .int .i64 f1, .slice A1 ss1.length c1, .int .i64 d2, .int .i64 f2, .slice A2 ss2.length c2, .slice A3 st.length c3, .slice A4 P.length c4, .slice A5 pp.length c5, .int .i64 m] 31)).alloc (.cells #[.int .i64 0, .int .i64 0, .slice none 0 0, .int .i64 0, .int .i64 0, .slice none 0 0, .slice none 0 0, .slice none 0 0, .slice none 0 0, .int .i64 0] 41)).alloc (.cells #[.int .i64 0, .int .i64 0, .slice none 0 0, .int .i64 0, .int .i64 0, .slice none 0 0, .slice none 0 0, .slice none 0 0, .slice none 0 0, .int .i64 0] 41)) = w0 at *
  have hs0 : w.heap.size + 3 ≤ w0.heap.size := by have := blk_lt hko; omega
  refine (u_toDraftW d1 f1 ss1 d2 f2 ss2 st B A1 A2 A3 c1 c2 c3 w0 (hS.d.below (hb0.mono hB)) (by omega)).mono ?_
  rintro e w1 ⟨B1, e1, B2, e2, B3, e3, rfl, ho1, hb1⟩
  have hka1 := blk_next hka hb1
  have hko1 := blk_next hko hb1
  have hkr1 := blk_next hkr hb1
  have hbw1 : Below w.heap.size w w1 := hb0.trans (hb1.mono (by omega))
  have hs1 := hb1.size
  clear hka hko hkr hb1 hb0
  obtain ⟨hx0, hx1, hx2, hx3, hx4, hx5, hx6, hx7, hx8, hx9, hxl⟩ := blk10 hka1
  obtain ⟨hy0, hy1, hy2, hy3, hy4, hy5, hy6, hy7, hy8, hy9, hyl⟩ := blk10 hko1
  obtain ⟨⟨hv0, hv1, hv2, hv3, hv4⟩, hv5, hv6, hv7, hv8, hv9⟩ := blk10f hko1
  go_wp2_with fail
  clear hx0 hx1 hx2 hx3 hx4 hx5 hx6 hx7 hx8 hx9 hxl
  clear hy0 hy1 hy2 hy3 hy4 hy5 hy6 hy7 hy8 hy9 hyl
  clear hv0 hv1 hv2 hv3 hv4 hv5 hv6 hv7 hv8 hv9
  have hkos := blk10_set7 hko1 (.int .i64 d1) (.int .i64 f1) (.slice B1 ss1.length e1) (.int .i64 d2) (.int .i64 f2) (.slice B2 ss2.length e2) (.slice B3 st.length e3)
  have hkas := blk_other7 hka1 (show w.heap.size ≠ w.heap.size + 1 + 1 by omega) (.int .i64 d1) (.int .i64 f1) (.slice B1 ss1.length e1) (.int .i64 d2) (.int .i64 f2) (.slice B2 ss2.length e2) (.slice B3 st.length e3)
  have hkrs := blk_other7 hkr1 (show w.heap.size + 1 ≠ w.heap.size + 1 + 1 by omega) (.int .i64 d1) (.int .i64 f1) (.slice B1 ss1.length e1) (.int .i64 d2) (.int .i64 f2) (.slice B2 ss2.length e2) (.slice B3 st.length e3)
  have hos := ho1.box hko1 (by decide) (only7 (.int .i64 d1) (.int .i64 f1) (.slice B1 ss1.length e1) (.int .i64 d2) (.int .i64 f2) (.slice B2 ss2.length e2) (.slice B3 st.length e3))
  have hbs : Below w.heap.size w (((((((w1.setCell ⟨w.heap.size + 1 + 1, 0, none⟩ (.int .i64 d1)).setCell ⟨w.heap.size + 1 + 1, 1, none⟩ (.int .i64 f1)).setCell ⟨w.heap.size + 1 + 1, 2, none⟩ (.slice B1 ss1.length e1)).setCell ⟨w.heap.size + 1 + 1, 3, none⟩ (.int .i64 d2)).setCell ⟨w.heap.size + 1 + 1, 4, none⟩ (.int .i64 f2)).setCell ⟨w.heap.size + 1 + 1, 5, none⟩ (.slice B2 ss2.length e2)).setCell ⟨w.heap.size + 1 + 1, 6, none⟩ (.slice B3 st.length e3)) := only_below_B hbw1 (only7 _ _ _ _ _ _ _)
  have hss : (((((((w1.setCell ⟨w.heap.size + 1 + 1, 0, none⟩ (.int .i64 d1)).setCell ⟨w.heap.size + 1 + 1, 1, none⟩ (.int .i64 f1)).setCell ⟨w.heap.size + 1 + 1, 2, none⟩ (.slice B1 ss1.length e1)).setCell ⟨w.heap.size + 1 + 1, 3, none⟩ (.int .i64 d2)).setCell ⟨w.heap.size + 1 + 1, 4, none⟩ (.int .i64 f2)).setCell ⟨w.heap.size + 1 + 1, 5, none⟩ (.slice B2 ss2.length e2)).setCell ⟨w.heap.size + 1 + 1, 6, none⟩ (.slice B3 st.length e3)).heap.size = w1.heap.size := by simp [World.setCell]
  clear hbw1 hka1 hko1 hkr1 ho1
  generalize (((((((w1.setCell ⟨w.heap.size + 1 + 1, 0, none⟩ (.int .i64 d1)).setCell ⟨w.heap.size + 1 + 1, 1, none⟩ (.int .i64 f1)).setCell ⟨w.heap.size + 1 + 1, 2, none⟩ (.slice B1 ss1.length e1)).setCell ⟨w.heap.size + 1 + 1, 3, none⟩ (.int .i64 d2)).setCell ⟨w.heap.size + 1 + 1, 4, none⟩ (.int .i64 f2)).setCell ⟨w.heap.size + 1 + 1, 5, none⟩ (.slice B2 ss2.length e2)).setCell ⟨w.heap.size + 1 + 1, 6, none⟩ (.slice B3 st.length e3)) = w2 at *
  refine (u_toItemS2 P B A4 c4 L w2 HPL.out (hL.below (hbs.mono hB)) (by omega)).mono ?_
  rintro e w3 ⟨B4, e4, L3, rfl, hp3, hi3, hb3⟩
  have HP3 := Lib.hid hp3
  have hka3 := blk_next hkas hb3
  have hko3 := blk_next hkos hb3
  have hkr3 := blk_next hkrs hb3
  have ho3 := hos.below hb3
  have hbw3 : Below w.heap.size w w3 := hbs.trans (hb3.mono (by omega))
  have hs3 := hb3.size
  clear hkas hkos hkrs hos hbs hb3 hp3
  obtain ⟨hx0, hx1, hx2, hx3, hx4, hx5, hx6, hx7, hx8, hx9, hxl⟩ := blk10 hka3
  obtain ⟨hy0, hy1, hy2, hy3, hy4, hy5, hy6, hy7, hy8, hy9, hyl⟩ := blk10 hko3
  obtain ⟨⟨hv0, hv1, hv2, hv3, hv4⟩, hv5, hv6, hv7, hv8, hv9⟩ := blk10f hko3
  go_wp2_with fail
  clear hx0 hx1 hx2 hx3 hx4 hx5 hx6 hx7 hx8 hx9 hxl
  clear hy0 hy1 hy2 hy3 hy4 hy5 hy6 hy7 hy8 hy9 hyl
  clear hv0 hv1 hv2 hv3 hv4 hv5 hv6 hv7 hv8 hv9
  have hkos : (w3.setCell ⟨w.heap.size + 1 + 1, 7, none⟩ (.slice B4 P.length e4)).heap[w.heap.size + 1 + 1]? = some (.cells #[.int .i64 d1, .int .i64 f1, .slice B1 ss1.length e1, .int .i64 d2, .int .i64 f2, .slice B2 ss2.length e2, .slice B3 st.length e3, .slice B4 P.length e4, .slice none 0 0, .int .i64 0] 41 (0, 0)) := by have := blk_set hko3 7 (.slice B4 P.length e4); simpa using this
  have hkas := blk_other (p := ⟨w.heap.size + 1 + 1, 7, none⟩) hka3 (show w.heap.size ≠ w.heap.size + 1 + 1 by omega) (.slice B4 P.length e4)
  have hkrs := blk_other (p := ⟨w.heap.size + 1 + 1, 7, none⟩) hkr3 (show w.heap.size + 1 ≠ w.heap.size + 1 + 1 by omega) (.slice B4 P.length e4)
  have hos := ho3.box hko3 (by decide) (only1 (i := 7) (.slice B4 P.length e4))
  have his := hi3.box hko3 (by decide) (only1 (i := 7) (.slice B4 P.length e4))
  have hbs : Below w.heap.size w (w3.setCell ⟨w.heap.size + 1 + 1, 7, none⟩ (.slice B4 P.length e4)) := only_below_B hbw3 (only1 _)
  have hss3 : (w3.setCell ⟨w.heap.size + 1 + 1, 7, none⟩ (.slice B4 P.length e4)).heap.size = w3.heap.size := by simp [World.setCell]
  clear hbw3 hka3 hko3 hkr3 ho3 hi3
  generalize (w3.setCell ⟨w.heap.size + 1 + 1, 7, none⟩ (.slice B4 P.length e4)) = w4 at *
  refine (u_toPaperS pp B A5 c5 w4 (hS.p.below (hbs.mono hB)) (by omega)).mono ?_
  rintro e w5 ⟨B5, e5, rfl, hp5, hb5⟩
  have hka5 := blk_next hkas hb5
  have hko5 := blk_next hkos hb5
  have hkr5 := blk_next hkrs hb5
  have ho5 := hos.below hb5
  have hi5 := his.below hb5
  have hbw5 : Below w.heap.size w w5 := hbs.trans (hb5.mono (by omega))
  have hs5 := hb5.size
  clear hkas hkos hkrs hos his hbs hb5
  obtain ⟨hx0, hx1, hx2, hx3, hx4, hx5, hx6, hx7, hx8, hx9, hxl⟩ := blk10 hka5
  obtain ⟨hy0, hy1, hy2, hy3, hy4, hy5, hy6, hy7, hy8, hy9, hyl⟩ := blk10 hko5
  obtain ⟨⟨hv0, hv1, hv2, hv3, hv4⟩, hv5, hv6, hv7, hv8, hv9⟩ := blk10f hko5
  obtain ⟨hr0, hr1, hr2, hr3, hr4, hr5, hr6, hr7, hr8, hr9, hrl⟩ := blk10 hkr5
  obtain ⟨⟨hu0, hu1, hu2, hu3, hu4⟩, hu5, hu6, hu7, hu8, hu9⟩ := blk10f hkr5
  go_wp2
  refine bodyPost_ret (v := .agg #[.int .i64 d1, .int .i64 f1, .slice B1 ss1.length e1, .int .i64 d2, .int .i64 f2, .slice B2 ss2.length e2, .slice B3 st.length e3, .slice B4 P.length e4, .slice B5 pp.length e5, .int .i64 m]) (by simp [results, Tryz.results17, go_sem, *]) rfl ?_
  have hbxo := boxAt_of hko5
  have hbxr := boxAt_of hkr5
  have hbx : Boxy w5 ((((((((((((w5.setCell ⟨w.heap.size + 1 + 1, 8, none⟩ (.slice B5 pp.length e5)).setCell ⟨w.heap.size + 1 + 1, 9, none⟩ (.int .i64 m)).setCell ⟨w.heap.size + 1, 0, none⟩ (.int .i64 d1)).setCell ⟨w.heap.size + 1, 1, none⟩ (.int .i64 f1)).setCell ⟨w.heap.size + 1, 2, none⟩ (.slice B1 ss1.length e1)).setCell ⟨w.heap.size + 1, 3, none⟩ (.int .i64 d2)).setCell ⟨w.heap.size + 1, 4, none⟩ (.int .i64 f2)).setCell ⟨w.heap.size + 1, 5, none⟩ (.slice B2 ss2.length e2)).setCell ⟨w.heap.size + 1, 6, none⟩ (.slice B3 st.length e3)).setCell ⟨w.heap.size + 1, 7, none⟩ (.slice B4 P.length e4)).setCell ⟨w.heap.size + 1, 8, none⟩ (.slice B5 pp.length e5)).setCell ⟨w.heap.size + 1, 9, none⟩ (.int .i64 m)) := (by repeat (first | (with_reducible exact Boxy.refl _) | (with_reducible refine Boxy.drew ?_) | (with_reducible refine Boxy.drewN ?_ _) | (with_reducible refine Boxy.alloc ?_ _) | ((with_reducible refine Boxy.setCell ?_ ?hbs _); (case hbs => first | (with_reducible exact .inl (by assumption)) | exact .inl (by assumption) | exact .inr (by simp) | exact .inr (by simp; omega)))))
  refine ⟨B1, e1, B2, e2, B3, e3, B4, e4, B5, e5, rfl, OwnW.mk3 (ho5.boxy hbx) HP3.out (hi5.boxy hbx) (hp5.boxy hbx) (by simp [World.setCell]; omega) (by omega), bel⟩
end Go.Proofs.YtdddglihomchfaaGreat
