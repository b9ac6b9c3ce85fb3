/- FnExactMakeCopies: the contracts behind it, part 6. -/
import Derived.Deep.DeepCutAuto
import Derived.Deep.LoopGhost
import Derived.Deep.RegionHeld3
import Derived.Deep.RegionLaw
import Derived.Laws.OwnMore
import Derived.Lib.SliceRun
import Derived.Lib.SlicesDelete
import Derived.Shelf.Spec.SlicesInsertGrow
import Derived.WalkKit
import Derived.Test.YtdddglihomchfaaGreatRows
import Derived.Test.YtdddglihomchfaaGreatQMakeCopiese
namespace Go.Proofs.YtdddglihomchfaaGreat
open Go.ChangeShapes Go.WideShapes Go.ChangeAt Go.RowKit
set_option linter.unusedVariables false
set_option linter.unusedSimpArgs false
set_option maxRecDepth 10000
theorem OwnS.grownP {w w' : World} {lo hi b n : Nat} {A : Option Addr} {c : Nat} {ss : List ByteArray} {v : Value} {xs : List Value} (ho : OwnS w lo hi A c ss) (hp : w.ownsRow b 118 3 v n xs) (hg : w.grownBy w' v.ownBlock) : OwnS w' lo hi A c ss :=
  ⟨own_grown ho.row hg (fun k hk he => own_ne_type ho.row hp (by decide) k hk he), ho.top⟩
theorem OwnSt.grownP {w w' : World} {lo hi b n : Nat} {A : Option Addr} {c : Nat} {st : List PStep} {v : Value} {xs : List Value} (ho : OwnSt w lo hi A c st) (hp : w.ownsRow b 118 3 v n xs) (hg : w.grownBy w' v.ownBlock) : OwnSt w' lo hi A c st :=
  ⟨own_grown ho.row hg (fun k hk he => own_ne_type ho.row hp (by decide) k hk he), ho.top⟩
theorem OwnD.grownP {w w' : World} {lo hi b n : Nat} {A1 A2 A3 : Option Addr} {c1 c2 c3 : Nat} {D : PDraft} {v : Value} {xs : List Value} (ho : OwnD w lo hi A1 c1 A2 c2 A3 c3 D) (hp : w.ownsRow b 118 3 v n xs) (hg : w.grownBy w' v.ownBlock) : OwnD w' lo hi A1 c1 A2 c2 A3 c3 D := ⟨ho.o1.grownP hp hg, ho.o2.grownP hp hg, ho.o3.grownP hp hg, ho.ne⟩
theorem OwnItems.grownP {w w' : World} {lo hi b n N c : Nat} {A : Option Addr} {L : List RItem} {v : Value} {xs : List Value} (ho : OwnItems w lo hi A N c L) (hp : w.ownsRow b 118 3 v n xs) (hg : w.grownBy w' v.ownBlock) : OwnItems w' lo hi A N c L :=
  ⟨own_grown ho.row hg (fun k hk he => own_ne_type ho.row hp (by decide) k hk he), ho.top, fun r hr => (ho.in_ r hr).grownP hp hg, ho.apart⟩
set_option maxHeartbeats 6400000 in
theorem i_workCopied (d1 f1 : Int) (ss1 : List ByteArray) (d2 f2 : Int) (ss2 : List ByteArray) (st : List PStep) (P : List PItem) (pp : List PPaper) (m : Int) (B : Nat) (A1 A2 A3 A4 A5 : Option Addr) (c1 c2 c3 c4 c5 : Nat) (w : World) (hS : RdWork w B A1 A2 A3 A4 c4 A5 ⟨d1, f1, ss1, d2, f2, ss2, st⟩ P pp) (hB : B ≤ w.heap.size) :
    Calls Tryz.prog 91 #[.agg #[.int .i64 d1, .int .i64 f1, .slice A1 ss1.length c1, .int .i64 d2, .int .i64 f2, .slice A2 ss2.length c2, .slice A3 st.length c3, .slice A4 P.length c4, .slice A5 pp.length c5, .int .i64 m]] w (UWork d1 f1 ss1 d2 f2 ss2 st P pp m w) := by
  obtain ⟨L, hpl, hL⟩ := hS.i
  have HPL := Lib.hid hpl
  have hpn := hS.p.nb
  clear hpl
  go_enter Tryz.func91, Tryz.ntmps91
  go_wp2
  have hbW : Below w.heap.size w ((w.alloc (.cells #[.int .i64 d1, .int .i64 f1, .slice A1 ss1.length c1, .int .i64 d2, .int .i64 f2, .slice A2 ss2.length c2, .slice A3 st.length c3, .slice A4 P.length c4, .slice A5 pp.length c5, .int .i64 m] 41)).alloc (.cells #[.int .i64 0, .int .i64 0, .slice none 0 0, .int .i64 0, .int .i64 0, .slice none 0 0, .slice none 0 0, .slice none 0 0, .slice none 0 0, .int .i64 0] 41)) := bel
  have hk1 := box_first w (.cells #[.int .i64 d1, .int .i64 f1, .slice A1 ss1.length c1, .int .i64 d2, .int .i64 f2, .slice A2 ss2.length c2, .slice A3 st.length c3, .slice A4 P.length c4, .slice A5 pp.length c5, .int .i64 m] 41) (.cells #[.int .i64 0, .int .i64 0, .slice none 0 0, .int .i64 0, .int .i64 0, .slice none 0 0, .slice none 0 0, .slice none 0 0, .slice none 0 0, .int .i64 0] 41)
  have hk2 := box_second w (.cells #[.int .i64 d1, .int .i64 f1, .slice A1 ss1.length c1, .int .i64 d2, .int .i64 f2, .slice A2 ss2.length c2, .slice A3 st.length c3, .slice A4 P.length c4, .slice A5 pp.length c5, .int .i64 m] 41) (.cells #[.int .i64 0, .int .i64 0, .slice none 0 0, .int .i64 0, .int .i64 0, .slice none 0 0, .slice none 0 0, .slice none 0 0, .slice none 0 0, .int .i64 0] 41)
  generalize ((w.alloc (.cells #[.int .i64 d1, .int .i64 f1, .slice A1 ss1.length c1, .int .i64 d2, .int .i64 f2, .slice A2 ss2.length c2, .slice A3 st.length c3, .slice A4 P.length c4, .slice A5 pp.length c5, .int .i64 m] 41)).alloc (.cells #[.int .i64 0, .int .i64 0, .slice none 0 0, .int .i64 0, .int .i64 0, .slice none 0 0, .slice none 0 0, .slice none 0 0, .slice none 0 0, .int .i64 0] 41)) = w0 at *
  have hzw := hbW.size
  have hz0_ := blk_lt hk1
  have hz1_ := blk_lt hk2
  obtain ⟨hx0, hx1, hx2, hx3, hx4, hx5, hx6, hx7, hx8, hx9, hxl⟩ := blk10 hk1
  have gD := hS.d.below (hbW.mono hB)
  have gI := hL.below (hbW.mono hB)
  have gP := hS.p.below (hbW.mono hB)
  have hB0 : B ≤ w0.heap.size := by omega
  have hB1 : B ≤ w.heap.size + 1 := by omega
  have hz1q : w.heap.size + 1 ≤ w0.heap.size := by omega
  go_region_held3 (fun W => (∀ b o, b < w.heap.size + 1 → W.cell? ⟨b, o, none⟩ = (w0).cell? ⟨b, o, none⟩) ∧ (∀ b o, b < w.heap.size + 1 → W.frozen? ⟨b, o, none⟩ = (w0).frozen? ⟨b, o, none⟩) ∧ Below (w.heap.size + 1) (w0) W) (exact keep_of bel) (first | (go_at_call 144; have hq := (‹_ ∧ _ ∧ Below _ _ _›).2.2; refine (u_draftCopied d1 f1 ss1 d2 f2 ss2 st B A1 A2 A3 c1 c2 c3 _ (gD.below (hq.mono hB1)) (Nat.le_trans hB0 hq.size)).mono ?_; rintro e w1 ⟨B1, e1, B2, e2, B3, e3, rfl, ho1, hb1⟩; have hqs1 := hq.size; have hbs1 := hb1.size; (try simp at hqs1); (try simp at hbs1); (have hb1X : Below w0.heap.size w0 w1 := (by first | exact hb1 | exact ⟨hb1.os, hb1.tape, hb1.output, hb1.size, hb1.block⟩)); (have ho1X : OwnD w1 w0.heap.size w1.heap.size B1 e1 B2 e2 B3 e3 ⟨d1, f1, ss1, d2, f2, ss2, st⟩ := ho1); (have hkk1 := blk_next hk2 hb1X)) | (go_at_call 145; have hq := (‹_ ∧ _ ∧ Below _ _ _›).2.2; refine (u_copyItems P B A4 P.length c4 L _ HPL.out (gI.below (hq.mono hB1)) (Nat.le_trans hB0 hq.size)).mono ?_; rintro e w2 ⟨B4, e4, L4, rfl, hp4, ho4, hb2⟩; (have HP4 := Lib.hid hp4); clear hp4; have hqs2 := hq.size; have hbs2 := hb2.size; (try simp at hqs2); (try simp at hbs2); (have hb2X : Below w1.heap.size w1 w2 := (by first | exact hb2 | exact ⟨hb2.os, hb2.tape, hb2.output, hb2.size, hb2.block⟩)); (have ho4X : OwnItems w2 w1.heap.size w2.heap.size B4 P.length e4 L4 := ho4); (have ho1Y := ho1X.below hb2X); (have hkk2 := blk_next hkk1 hb2X)) | (go_at_call 146; have hq := (‹_ ∧ _ ∧ Below _ _ _›).2.2; refine (clone_paper B A5 pp.length c5 pp _ (gP.below (hq.mono hB1)) (Nat.le_trans hB0 hq.size)).mono ?_; rintro e w3 ⟨B5, e5, rfl, ho5, hb3⟩; have hqs3 := hq.size; have hbs3 := hb3.size; (try simp at hqs3); (try simp at hbs3); (have hb3X : Below w2.heap.size w2 w3 := (by first | exact hb3 | exact ⟨hb3.os, hb3.tape, hb3.output, hb3.size, hb3.block⟩)); (have ho5X : OwnP w3 w2.heap.size w3.heap.size B5 e5 pp := OwnP.of ho5 (Nat.le_refl _)); (have ho1Z := ho1Y.below hb3X); (have ho4Z := ho4X.below hb3X); (have hkk3 := blk_next hkk2 hb3X); obtain ⟨hv0, hv1, hv2, hv3, hv4, hv5, hv6, hv7, hv8, hv9, hvl⟩ := blk10 hkk3; obtain ⟨⟨hf0, hf1, hf2, hf3, hf4⟩, hf5, hf6, hf7, hf8, hf9⟩ := blk10f hkk3))
  all_goals (
    go_wp2
    have hbx3 : Below w.heap.size w w3 := hbW.trans ((hb1X.mono hzw).trans ((hb2X.mono (Nat.le_trans hzw hb1X.size)).trans (hb3X.mono (Nat.le_trans (Nat.le_trans hzw hb1X.size) hb2X.size))))
    have hs1X := hb1X.size
    have hs2X := hb2X.size
    have hs3X := hb3X.size
    refine bodyPost_ret (v := .agg #[.int .i64 d1, .int .i64 f1, .slice B1 ss1.length e1, .int .i64 d2, .int .i64 f2, .slice B2 ss2.length e2, .slice B3 st.length e3, .slice B4 P.length e4, .slice B5 pp.length e5, .int .i64 m]) (by simp [results, Tryz.results91, go_sem, *]) rfl ?_
    have hbx := boxAt_of hkk3
    have HBX := hide hbx3
    clear hbx3
    refine ⟨B1, e1, B2, e2, B3, e3, B4, e4, B5, e5, rfl, OwnW.mk3 ((OwnDW.of ho1Z).boxy (by repeat (first | (with_reducible exact Boxy.refl _) | (with_reducible refine Boxy.drew ?_) | (with_reducible refine Boxy.drewN ?_ _) | (with_reducible refine Boxy.alloc ?_ _) | ((with_reducible refine Boxy.setCell ?_ ?hbs _); (case hbs => first | (with_reducible exact .inl (by assumption)) | exact .inl (by assumption) | exact .inr (by simp) | exact .inr (by simp; omega)))))) HP4.out (ho4Z.boxy (by repeat (first | (with_reducible exact Boxy.refl _) | (with_reducible refine Boxy.drew ?_) | (with_reducible refine Boxy.drewN ?_ _) | (with_reducible refine Boxy.alloc ?_ _) | ((with_reducible refine Boxy.setCell ?_ ?hbs _); (case hbs => first | (with_reducible exact .inl (by assumption)) | exact .inl (by assumption) | exact .inr (by simp) | exact .inr (by simp; omega)))))) (ho5X.boxy (by repeat (first | (with_reducible exact Boxy.refl _) | (with_reducible refine Boxy.drew ?_) | (with_reducible refine Boxy.drewN ?_ _) | (with_reducible refine Boxy.alloc ?_ _) | ((with_reducible refine Boxy.setCell ?_ ?hbs _); (case hbs => first | (with_reducible exact .inl (by assumption)) | exact .inl (by assumption) | exact .inr (by simp) | exact .inr (by simp; omega)))))) (by simp [World.setCell]; omega) (by omega), ?_⟩
    have hbx3 := unhide HBX
    clear hb1 hb2 hb1X hb2X hb3X
    exact bel)
theorem OwnP.pin {w : World} {lo k c : Nat} {A : Option Addr} {l : List PPaper} (ho : w.ownsRow lo 118 3 (.slice A l.length c) l.length (l.flatMap paperCells)) (h : (Value.slice A l.length c).ownBlock = some k) : OwnP w k (k + 1) A c l :=
  ⟨own_lo ho (fun j hj => by rw [h] at hj; injection hj with hj; omega), fun j hj => by rw [h] at hj; injection hj with hj; omega⟩
set_option maxHeartbeats 6400000 in
theorem s_l38Copy (d1 f1 : Int) (ss1 : List ByteArray) (d2 f2 : Int) (ss2 : List ByteArray) (st : List PStep) (P : List PItem) (pp : List PPaper) (m : Int) (B : Nat) (A1 A2 A3 A4 A5 : Option Addr) (c1 c2 c3 c4 c5 : Nat) (w : World) (hS : RdWork w B A1 A2 A3 A4 c4 A5 ⟨d1, f1, ss1, d2, f2, ss2, st⟩ P pp) (hB : B ≤ w.heap.size) :
    Calls Tryz.prog 90 #[.agg #[.int .i64 d1, .int .i64 f1, .slice A1 ss1.length c1, .int .i64 d2, .int .i64 f2, .slice A2 ss2.length c2, .slice A3 st.length c3, .slice A4 P.length c4, .slice A5 pp.length c5, .int .i64 m]] w (UWork d1 f1 ss1 d2 f2 ss2 st P pp m w) := by
  obtain ⟨L, hpl, hL⟩ := hS.i
  have HPL := Lib.hid hpl
  have hpn := hS.p.nb
  clear hpl
  have hone := paperCells_one pp
  have HONE := hide hone
  clear hone
  obtain ⟨i0, hi0, hz0, hz1, hz2⟩ := info_parts info_paperCells
  go_enter Tryz.func90, Tryz.ntmps90
  go_wp2
  have hbW : Below w.heap.size w ((w.alloc (.cells #[.int .i64 d1, .int .i64 f1, .slice A1 ss1.length c1, .int .i64 d2, .int .i64 f2, .slice A2 ss2.length c2, .slice A3 st.length c3, .slice A4 P.length c4, .slice A5 pp.length c5, .int .i64 m] 41)).alloc (.cells #[.int .i64 0, .int .i64 0, .slice none 0 0, .int .i64 0, .int .i64 0, .slice none 0 0, .slice none 0 0, .slice none 0 0, .slice none 0 0, .int .i64 0] 41)) := bel
  have hk1 := box_first w (.cells #[.int .i64 d1, .int .i64 f1, .slice A1 ss1.length c1, .int .i64 d2, .int .i64 f2, .slice A2 ss2.length c2, .slice A3 st.length c3, .slice A4 P.length c4, .slice A5 pp.length c5, .int .i64 m] 41) (.cells #[.int .i64 0, .int .i64 0, .slice none 0 0, .int .i64 0, .int .i64 0, .slice none 0 0, .slice none 0 0, .slice none 0 0, .slice none 0 0, .int .i64 0] 41)
  have hk2 := box_second w (.cells #[.int .i64 d1, .int .i64 f1, .slice A1 ss1.length c1, .int .i64 d2, .int .i64 f2, .slice A2 ss2.length c2, .slice A3 st.length c3, .slice A4 P.length c4, .slice A5 pp.length c5, .int .i64 m] 41) (.cells #[.int .i64 0, .int .i64 0, .slice none 0 0, .int .i64 0, .int .i64 0, .slice none 0 0, .slice none 0 0, .slice none 0 0, .slice none 0 0, .int .i64 0] 41)
  generalize ((w.alloc (.cells #[.int .i64 d1, .int .i64 f1, .slice A1 ss1.length c1, .int .i64 d2, .int .i64 f2, .slice A2 ss2.length c2, .slice A3 st.length c3, .slice A4 P.length c4, .slice A5 pp.length c5, .int .i64 m] 41)).alloc (.cells #[.int .i64 0, .int .i64 0, .slice none 0 0, .int .i64 0, .int .i64 0, .slice none 0 0, .slice none 0 0, .slice none 0 0, .slice none 0 0, .int .i64 0] 41)) = w0 at *
  have hzw := hbW.size
  have hz0_ := blk_lt hk1
  have hz1_ := blk_lt hk2
  obtain ⟨hx0, hx1, hx2, hx3, hx4, hx5, hx6, hx7, hx8, hx9, hxl⟩ := blk10 hk1
  have gD := hS.d.below (hbW.mono hB)
  have gI := hL.below (hbW.mono hB)
  have gP := hS.p.below (hbW.mono hB)
  have hB0 : B ≤ w0.heap.size := by omega
  have hB1 : B ≤ w.heap.size + 1 := by omega
  have hz1q : w.heap.size + 1 ≤ w0.heap.size := by omega
  go_region_held3 (fun W => (∀ b o, b < w.heap.size + 1 → W.cell? ⟨b, o, none⟩ = (w0).cell? ⟨b, o, none⟩) ∧ (∀ b o, b < w.heap.size + 1 → W.frozen? ⟨b, o, none⟩ = (w0).frozen? ⟨b, o, none⟩) ∧ Below (w.heap.size + 1) (w0) W) (exact keep_of bel) (first | (go_at_call 142; have hq := (‹_ ∧ _ ∧ Below _ _ _›).2.2; refine (u_l37Copy d1 f1 ss1 d2 f2 ss2 st B A1 A2 A3 c1 c2 c3 _ (gD.below (hq.mono hB1)) (Nat.le_trans hB0 hq.size)).mono ?_; rintro e w1 ⟨B1, e1, B2, e2, B3, e3, rfl, ho1, hb1⟩; have hqs1 := hq.size; have hbs1 := hb1.size; (try simp at hqs1); (try simp at hbs1); (have hkk1 : w1.heap[w.heap.size + 1]? = some (.cells #[.int .i64 0, .int .i64 0, .slice none 0 0, .int .i64 0, .int .i64 0, .slice none 0 0, .slice none 0 0, .slice none 0 0, .slice none 0 0, .int .i64 0] 41 (0, 0)) := (by first | exact blk_next hk2 hb1 | exact blk_next (blk_drew hk2) hb1 | exact blk_next (blk_alloc hk2 _) hb1 | exact blk_next (blk_drew (blk_alloc hk2 _)) hb1))) | (go_at_call 143; have hq := (‹_ ∧ _ ∧ Below _ _ _›).2.2; refine (u_l35Copy P B A4 P.length c4 L _ HPL.out (gI.below (hq.mono hB1)) (Nat.le_trans hB0 hq.size)).mono ?_; rintro e w2 ⟨B4, e4, L4, rfl, hp4, ho4, hb2⟩; (have HP4 := Lib.hid hp4); clear hp4; have hqs2 := hq.size; have hbs2 := hb2.size; (try simp at hqs2); (try simp at hbs2); (have hkk2 : w2.heap[w.heap.size + 1]? = some (.cells #[.int .i64 0, .int .i64 0, .slice none 0 0, .int .i64 0, .int .i64 0, .slice none 0 0, .slice none 0 0, .slice none 0 0, .slice none 0 0, .int .i64 0] 41 (0, 0)) := (by first | exact blk_next hkk1 hb2 | exact blk_next (blk_drew hkk1) hb2 | exact blk_next (blk_alloc hkk1 _) hb2 | exact blk_next (blk_drew (blk_alloc hkk1 _)) hb2))) | ((have ho1X : OwnD w1 (w0.heap.size + 1) w1.heap.size B1 e1 B2 e2 B3 e3 ⟨d1, f1, ss1, d2, f2, ss2, st⟩ := ho1.wide (by first | exact Nat.le_refl _ | simp) (Nat.le_refl _)); (have ho4X : OwnItems w2 (w1.heap.size) w2.heap.size B4 P.length e4 L4 := ho4.wide (by first | exact Nat.le_refl _ | simp) (Nat.le_refl _)); (have hb2X : Below w1.heap.size w1 w2 := (by first | exact hb2 | exact ⟨hb2.os, hb2.tape, hb2.output, hb2.size, hb2.block⟩)); (have hb1X : Below (w0.alloc (.cells #[] 118)).heap.size (w0.alloc (.cells #[] 118)) w1 := (by first | exact hb1 | exact ⟨hb1.os, hb1.tape, hb1.output, hb1.size, hb1.block⟩)); (have hoE : World.ownsRow w2 w0.heap.size 118 3 (.slice (some ⟨w0.heap.size, 0, none⟩) 0 0) 0 [] := own_below (own_below (made_at w0 _ _ rfl (by omega)) hb1X) hb2X); (have ho1Y := ho1X.below hb2X); refine step_append_any _ rfl (.tmp 9) (.tmp 11) _ rfl w0.heap.size 118 i0 _ 3 24 Tryz.underlying39 hi0 hz0 hz1 hz2 rfl (by omega) (.slice (some ⟨w0.heap.size, 0, none⟩) 0 0) 0 [] rfl ?_ B A5 pp.length c5 (pp.flatMap paperCells) rfl ?_ (unhide HONE) ?_ ?_ ?_ ?_; (first | exact hoE | exact ⟨hoE.1, hoE.2⟩); (have hq := (‹_ ∧ _ ∧ Below _ _ _›).2.2; exact gP.rd.below (hq.mono hB1)); (unfold maxLen; omega); omega; (have hq := (‹_ ∧ _ ∧ Below _ _ _›).2.2; exact hq.size); intro v3 w3 ho3 hg3 hat3; (have hg3X : World.grownBy w2 w3 (Value.ownBlock (.slice (some ⟨w0.heap.size, 0, none⟩) 0 0)) := (by first | exact hg3 | exact ⟨hg3.os, hg3.tape, hg3.output, hg3.size, hg3.block⟩)); (have hz3 := hg3X.size; (try simp at hz3)); (have hq3 := (‹_ ∧ _ ∧ Below _ _ _›).2.2); (have hbw3 := grown_below hg3 (B := w.heap.size + 1) (fun k hk => Nat.le_trans hz1q (hoE.lt k hk).1) (Nat.le_trans hz1q hq3.size)); (have hbq3 := hq3.trans hbw3); (have hkk3 := blk_markedk (hkk2) hg3X hoE (by decide)); (have ho1Z := ho1Y.grownP hoE hg3X); (have ho4Z := (ho4X).grownP hoE hg3X); clear hg3 hbw3; obtain ⟨hv0, hv1, hv2, hv3, hv4, hv5, hv6, hv7, hv8, hv9, hvl⟩ := blk10 hkk3; obtain ⟨⟨hf0, hf1, hf2, hf3, hf4⟩, hf5, hf6, hf7, hf8, hf9⟩ := blk10f hkk3; rw [Nat.zero_add, List.nil_append] at ho3; obtain ⟨B5, e5, rfl⟩ := own_slice ho3; (have hsz1 := hb1X.size); (have hsz2 := hb2X.size); (simp at hsz1); (have hFin : ∃ l1 l2 k, OwnD w3 l1 w1.heap.size B1 e1 B2 e2 B3 e3 ⟨d1, f1, ss1, d2, f2, ss2, st⟩ ∧ OwnItems w3 l2 w2.heap.size B4 P.length e4 L4 ∧ OwnP w3 k (k + 1) B5 e5 pp ∧ (w0.heap.size ≤ l1 ∧ w1.heap.size ≤ w3.heap.size ∧ w1.heap.size ≤ l2 ∧ w2.heap.size ≤ w3.heap.size ∧ w0.heap.size ≤ k ∧ k + 1 ≤ w3.heap.size ∧ w0.heap.size ≤ w1.heap.size) ∧ (w1.heap.size ≤ k ∨ k + 1 ≤ l1) ∧ (w2.heap.size ≤ k ∨ k + 1 ≤ l2) := (by rcases hat3 with hq9 | hq9; (have hlt9 := (ho3.lt _ (show (Value.slice B5 pp.length e5).ownBlock = some w0.heap.size from hq9)).2; exact ⟨w0.heap.size + 1, w1.heap.size, w0.heap.size, ho1Z, ho4Z, OwnP.pin ho3 hq9, by omega, by omega, by omega⟩); (have hq8 : (Value.slice B5 pp.length e5).ownBlock = some w2.heap.size := hq9; have hlt9 := (ho3.lt _ hq8).2; exact ⟨w0.heap.size + 1, w1.heap.size, w2.heap.size, ho1Z, ho4Z, OwnP.pin ho3 hq8, by omega, by omega, by omega⟩))); (have HFIN := hide hFin); clear hFin hat3) | ((have ho1X : OwnD w1 (w0.heap.size) w1.heap.size B1 e1 B2 e2 B3 e3 ⟨d1, f1, ss1, d2, f2, ss2, st⟩ := ho1.wide (by first | exact Nat.le_refl _ | simp) (Nat.le_refl _)); (have ho4X : OwnItems w2 (w1.heap.size + 1) w2.heap.size B4 P.length e4 L4 := ho4.wide (by first | exact Nat.le_refl _ | simp) (Nat.le_refl _)); (have hb2X : Below (w1.alloc (.cells #[] 118)).heap.size (w1.alloc (.cells #[] 118)) w2 := (by first | exact hb2 | exact ⟨hb2.os, hb2.tape, hb2.output, hb2.size, hb2.block⟩)); (have hb1X : Below w0.heap.size w0 w1 := (by first | exact hb1 | exact ⟨hb1.os, hb1.tape, hb1.output, hb1.size, hb1.block⟩)); (have hoE : World.ownsRow w2 w0.heap.size 118 3 (.slice (some ⟨w1.heap.size, 0, none⟩) 0 0) 0 [] := own_below (made_at w1 _ _ rfl hb1X.size) hb2X); (have ho1Y := (ho1X.alloc (.cells #[] 118)).below hb2X); refine step_append_any _ rfl (.tmp 9) (.tmp 11) _ rfl w0.heap.size 118 i0 _ 3 24 Tryz.underlying39 hi0 hz0 hz1 hz2 rfl (by omega) (.slice (some ⟨w1.heap.size, 0, none⟩) 0 0) 0 [] rfl ?_ B A5 pp.length c5 (pp.flatMap paperCells) rfl ?_ (unhide HONE) ?_ ?_ ?_ ?_; (first | exact hoE | exact ⟨hoE.1, hoE.2⟩); (have hq := (‹_ ∧ _ ∧ Below _ _ _›).2.2; exact gP.rd.below (hq.mono hB1)); (unfold maxLen; omega); omega; (have hq := (‹_ ∧ _ ∧ Below _ _ _›).2.2; exact hq.size); intro v3 w3 ho3 hg3 hat3; (have hg3X : World.grownBy w2 w3 (Value.ownBlock (.slice (some ⟨w1.heap.size, 0, none⟩) 0 0)) := (by first | exact hg3 | exact ⟨hg3.os, hg3.tape, hg3.output, hg3.size, hg3.block⟩)); (have hz3 := hg3X.size; (try simp at hz3)); (have hq3 := (‹_ ∧ _ ∧ Below _ _ _›).2.2); (have hbw3 := grown_below hg3 (B := w.heap.size + 1) (fun k hk => Nat.le_trans hz1q (hoE.lt k hk).1) (Nat.le_trans hz1q hq3.size)); (have hbq3 := hq3.trans hbw3); (have hkk3 := blk_markedk (hkk2) hg3X hoE (by decide)); (have ho1Z := ho1Y.grownP hoE hg3X); (have ho4Z := (ho4X).grownP hoE hg3X); clear hg3 hbw3; obtain ⟨hv0, hv1, hv2, hv3, hv4, hv5, hv6, hv7, hv8, hv9, hvl⟩ := blk10 hkk3; obtain ⟨⟨hf0, hf1, hf2, hf3, hf4⟩, hf5, hf6, hf7, hf8, hf9⟩ := blk10f hkk3; rw [Nat.zero_add, List.nil_append] at ho3; obtain ⟨B5, e5, rfl⟩ := own_slice ho3; (have hsz1 := hb1X.size); (have hsz2 := hb2X.size); (simp at hsz2); (have hFin : ∃ l1 l2 k, OwnD w3 l1 w1.heap.size B1 e1 B2 e2 B3 e3 ⟨d1, f1, ss1, d2, f2, ss2, st⟩ ∧ OwnItems w3 l2 w2.heap.size B4 P.length e4 L4 ∧ OwnP w3 k (k + 1) B5 e5 pp ∧ (w0.heap.size ≤ l1 ∧ w1.heap.size ≤ w3.heap.size ∧ w1.heap.size ≤ l2 ∧ w2.heap.size ≤ w3.heap.size ∧ w0.heap.size ≤ k ∧ k + 1 ≤ w3.heap.size ∧ w0.heap.size ≤ w1.heap.size) ∧ (w1.heap.size ≤ k ∨ k + 1 ≤ l1) ∧ (w2.heap.size ≤ k ∨ k + 1 ≤ l2) := (by rcases hat3 with hq9 | hq9; (have hlt9 := (ho3.lt _ (show (Value.slice B5 pp.length e5).ownBlock = some w1.heap.size from hq9)).2; exact ⟨w0.heap.size, w1.heap.size + 1, w1.heap.size, ho1Z, ho4Z, OwnP.pin ho3 hq9, by omega, by omega, by omega⟩); (have hq8 : (Value.slice B5 pp.length e5).ownBlock = some w2.heap.size := hq9; have hlt9 := (ho3.lt _ hq8).2; exact ⟨w0.heap.size, w1.heap.size + 1, w2.heap.size, ho1Z, ho4Z, OwnP.pin ho3 hq8, by omega, by omega, by omega⟩))); (have HFIN := hide hFin); clear hFin hat3) | ((have ho1X : OwnD w1 (w0.heap.size) w1.heap.size B1 e1 B2 e2 B3 e3 ⟨d1, f1, ss1, d2, f2, ss2, st⟩ := ho1.wide (by first | exact Nat.le_refl _ | simp) (Nat.le_refl _)); (have ho4X : OwnItems w2 (w1.heap.size) w2.heap.size B4 P.length e4 L4 := ho4.wide (by first | exact Nat.le_refl _ | simp) (Nat.le_refl _)); (have hb2X : Below w1.heap.size w1 w2 := (by first | exact hb2 | exact ⟨hb2.os, hb2.tape, hb2.output, hb2.size, hb2.block⟩)); (have hb1X : Below w0.heap.size w0 w1 := (by first | exact hb1 | exact ⟨hb1.os, hb1.tape, hb1.output, hb1.size, hb1.block⟩)); (have hoE : World.ownsRow (w2.alloc (.cells #[] 118)) w0.heap.size 118 3 (.slice (some ⟨w2.heap.size, 0, none⟩) 0 0) 0 [] := made_at w2 _ _ rfl (Nat.le_trans hb1X.size hb2X.size)); (have ho1Y := (ho1X.below hb2X).alloc (.cells #[] 118)); refine step_append_any _ rfl (.tmp 9) (.tmp 11) _ rfl w0.heap.size 118 i0 _ 3 24 Tryz.underlying39 hi0 hz0 hz1 hz2 rfl (by omega) (.slice (some ⟨w2.heap.size, 0, none⟩) 0 0) 0 [] rfl ?_ B A5 pp.length c5 (pp.flatMap paperCells) rfl ?_ (unhide HONE) ?_ ?_ ?_ ?_; (first | exact hoE | exact ⟨hoE.1, hoE.2⟩); (have hq := (‹_ ∧ _ ∧ Below _ _ _›).2.2; exact gP.rd.below (hq.mono hB1)); (unfold maxLen; omega); omega; (have hq := (‹_ ∧ _ ∧ Below _ _ _›).2.2; exact hq.size); intro v3 w3 ho3 hg3 hat3; (have hg3X : World.grownBy (w2.alloc (.cells #[] 118)) w3 (Value.ownBlock (.slice (some ⟨w2.heap.size, 0, none⟩) 0 0)) := (by first | exact hg3 | exact ⟨hg3.os, hg3.tape, hg3.output, hg3.size, hg3.block⟩)); (have hz3 := hg3X.size; (try simp at hz3)); (have hq3 := (‹_ ∧ _ ∧ Below _ _ _›).2.2); (have hbw3 := grown_below hg3 (B := w.heap.size + 1) (fun k hk => Nat.le_trans hz1q (hoE.lt k hk).1) (Nat.le_trans hz1q hq3.size)); (have hbq3 := hq3.trans hbw3); (have hkk3 := blk_markedk (blk_alloc hkk2 _) hg3X hoE (by decide)); (have ho1Z := ho1Y.grownP hoE hg3X); (have ho4Z := (ho4X.alloc (.cells #[] 118)).grownP hoE hg3X); clear hg3 hbw3; obtain ⟨hv0, hv1, hv2, hv3, hv4, hv5, hv6, hv7, hv8, hv9, hvl⟩ := blk10 hkk3; obtain ⟨⟨hf0, hf1, hf2, hf3, hf4⟩, hf5, hf6, hf7, hf8, hf9⟩ := blk10f hkk3; rw [Nat.zero_add, List.nil_append] at ho3; obtain ⟨B5, e5, rfl⟩ := own_slice ho3; (have hsz1 := hb1X.size); (have hsz2 := hb2X.size); (have hFin : ∃ l1 l2 k, OwnD w3 l1 w1.heap.size B1 e1 B2 e2 B3 e3 ⟨d1, f1, ss1, d2, f2, ss2, st⟩ ∧ OwnItems w3 l2 w2.heap.size B4 P.length e4 L4 ∧ OwnP w3 k (k + 1) B5 e5 pp ∧ (w0.heap.size ≤ l1 ∧ w1.heap.size ≤ w3.heap.size ∧ w1.heap.size ≤ l2 ∧ w2.heap.size ≤ w3.heap.size ∧ w0.heap.size ≤ k ∧ k + 1 ≤ w3.heap.size ∧ w0.heap.size ≤ w1.heap.size) ∧ (w1.heap.size ≤ k ∨ k + 1 ≤ l1) ∧ (w2.heap.size ≤ k ∨ k + 1 ≤ l2) := (by rcases hat3 with hq9 | hq9; (have hlt9 := (ho3.lt _ (show (Value.slice B5 pp.length e5).ownBlock = some w2.heap.size from hq9)).2; exact ⟨w0.heap.size, w1.heap.size, w2.heap.size, ho1Z, ho4Z, OwnP.pin ho3 hq9, by omega, by omega, by omega⟩); (have hq8 : (Value.slice B5 pp.length e5).ownBlock = some (w2.heap.size + 1) := (hq9.trans (by simp)); have hlt9 := (ho3.lt _ hq8).2; exact ⟨w0.heap.size, w1.heap.size, (w2.heap.size + 1), ho1Z, ho4Z, OwnP.pin ho3 hq8, by omega, by omega, by omega⟩))); (have HFIN := hide hFin); clear hFin hat3))
  all_goals (
    go_wp2
    have hbx3 : Below w.heap.size w w3 := hbW.trans (hbq3.mono (by omega))
    refine bodyPost_ret (v := .agg #[.int .i64 d1, .int .i64 f1, .slice B1 ss1.length e1, .int .i64 d2, .int .i64 f2, .slice B2 ss2.length e2, .slice B3 st.length e3, .slice B4 P.length e4, .slice B5 pp.length e5, .int .i64 m]) (by simp [results, Tryz.results90, go_sem, *]) rfl ?_
    have hbx := boxAt_of hkk3
    have HBX := hide hbx3
    clear hbx3
    obtain ⟨l1, l2, k, q1, q4, q5, hr1, hr2, hr3⟩ := unhide HFIN
    refine ⟨B1, e1, B2, e2, B3, e3, B4, e4, B5, e5, rfl, OwnW.mk3 ((OwnDW.of q1).boxy (by repeat (first | (with_reducible exact Boxy.refl _) | (with_reducible refine Boxy.drew ?_) | (with_reducible refine Boxy.drewN ?_ _) | (with_reducible refine Boxy.alloc ?_ _) | ((with_reducible refine Boxy.setCell ?_ ?hbs _); (case hbs => first | (with_reducible exact .inl (by assumption)) | exact .inl (by assumption) | exact .inr (by simp) | exact .inr (by simp; omega)))))) HP4.out (q4.boxy (by repeat (first | (with_reducible exact Boxy.refl _) | (with_reducible refine Boxy.drew ?_) | (with_reducible refine Boxy.drewN ?_ _) | (with_reducible refine Boxy.alloc ?_ _) | ((with_reducible refine Boxy.setCell ?_ ?hbs _); (case hbs => first | (with_reducible exact .inl (by assumption)) | exact .inl (by assumption) | exact .inr (by simp) | exact .inr (by simp; omega)))))) (q5.boxy (by repeat (first | (with_reducible exact Boxy.refl _) | (with_reducible refine Boxy.drew ?_) | (with_reducible refine Boxy.drewN ?_ _) | (with_reducible refine Boxy.alloc ?_ _) | ((with_reducible refine Boxy.setCell ?_ ?hbs _); (case hbs => first | (with_reducible exact .inl (by assumption)) | exact .inl (by assumption) | exact .inr (by simp) | exact .inr (by simp; omega)))))) (by simp [World.setCell]; omega) (by omega), ?_⟩
    have hbx3 := unhide HBX
    clear hb1 hb2 hb1X hb2X hq3 hbq3
    exact bel)
end Go.Proofs.YtdddglihomchfaaGreat
namespace Go.Proofs.YtdddglihomchfaaGreat
open Go.ChangeShapes Go.WideShapes Go.ChangeAt Go.RowKit
set_option linter.unusedVariables false
set_option linter.unusedSimpArgs false
set_option maxRecDepth 10000
set_option maxHeartbeats 3200000 in
theorem i_wchanged_yes (d1 f1 : Int) (ss1 : List ByteArray) (d2 f2 : Int) (ss2 : List ByteArray) (st : List PStep) (P : List PItem) (pp : List PPaper) (m : Int) (d1o f1o : Int) (ss1o : List ByteArray) (d2o f2o : Int) (ss2o : List ByteArray) (sto : List PStep) (Po : List PItem) (ppo : List PPaper) (mo : Int) (A1 A2 A3 A4 A5 : Option Addr) (c1 c2 c3 c4 c5 : Nat) (E1 E2 E3 E4 E5 : Option Addr) (g1 g2 g3 g4 g5 : Nat) (B B2 : Nat) (w : World) (hS : RdWork w B A1 A2 A3 A4 c4 A5 ⟨d1, f1, ss1, d2, f2, ss2, st⟩ P pp) (hB : B ≤ w.heap.size) (hO : RdWork w B2 E1 E2 E3 E4 g4 E5 ⟨d1o, f1o, ss1o, d2o, f2o, ss2o, sto⟩ Po ppo) (hB2 : B2 ≤ w.heap.size) (h1 : workOk ⟨⟨d1, f1, ss1, d2, f2, ss2, st⟩, P, pp, m⟩ = true) (h2 : workOk ⟨⟨d1o, f1o, ss1o, d2o, f2o, ss2o, sto⟩, Po, ppo, mo⟩ = true) :
    Calls Tryz.prog 92 #[.agg #[.int .i64 d1, .int .i64 f1, .slice A1 ss1.length c1, .int .i64 d2, .int .i64 f2, .slice A2 ss2.length c2, .slice A3 st.length c3, .slice A4 P.length c4, .slice A5 pp.length c5, .int .i64 m], .agg #[.int .i64 d1o, .int .i64 f1o, .slice E1 ss1o.length g1, .int .i64 d2o, .int .i64 f2o, .slice E2 ss2o.length g2, .slice E3 sto.length g3, .slice E4 Po.length g4, .slice E5 ppo.length g5, .int .i64 mo], .bool true] w fun e w' => e = .returned (.tuple #[.agg #[.int .i64 d1o, .int .i64 f1o, .slice E1 ss1o.length g1, .int .i64 d2o, .int .i64 f2o, .slice E2 ss2o.length g2, .slice E3 sto.length g3, .slice E4 Po.length g4, .slice E5 ppo.length g5, .int .i64 mo], .bool true]) ∧ Below w.heap.size w w' := by
  have H1 := Lib.hid h1
  have H2 := Lib.hid h2
  clear h1 h2
  go_enter Tryz.func92, Tryz.ntmps92
  go_wp2_with fail
  obtain ⟨w1, he_w1⟩ : ∃ x, x = (((w.alloc (.cells #[.int .i64 d1, .int .i64 f1, .slice A1 ss1.length c1, .int .i64 d2, .int .i64 f2, .slice A2 ss2.length c2, .slice A3 st.length c3, .slice A4 P.length c4, .slice A5 pp.length c5, .int .i64 m] 41)).alloc (.cells #[.int .i64 d1o, .int .i64 f1o, .slice E1 ss1o.length g1, .int .i64 d2o, .int .i64 f2o, .slice E2 ss2o.length g2, .slice E3 sto.length g3, .slice E4 Po.length g4, .slice E5 ppo.length g5, .int .i64 mo] 41)).alloc (.cells #[.int .i64 0, .int .i64 0, .slice none 0 0, .int .i64 0, .int .i64 0, .slice none 0 0, .slice none 0 0, .slice none 0 0, .slice none 0 0, .int .i64 0] 41)) := ⟨_, rfl⟩
  have hk_a_w1 : w1.heap[w.heap.size]? = some (.cells #[.int .i64 d1, .int .i64 f1, .slice A1 ss1.length c1, .int .i64 d2, .int .i64 f2, .slice A2 ss2.length c2, .slice A3 st.length c3, .slice A4 P.length c4, .slice A5 pp.length c5, .int .i64 m] 41 (0, 0)) := by rw [he_w1]; exact (blk_alloc (blk_alloc (blk_new_at w (.cells #[.int .i64 d1, .int .i64 f1, .slice A1 ss1.length c1, .int .i64 d2, .int .i64 f2, .slice A2 ss2.length c2, .slice A3 st.length c3, .slice A4 P.length c4, .slice A5 pp.length c5, .int .i64 m] 41) (k := w.heap.size) (by simp [World.setCell])) _) _)
  have hk_b_w1 : w1.heap[w.heap.size + 1]? = some (.cells #[.int .i64 d1o, .int .i64 f1o, .slice E1 ss1o.length g1, .int .i64 d2o, .int .i64 f2o, .slice E2 ss2o.length g2, .slice E3 sto.length g3, .slice E4 Po.length g4, .slice E5 ppo.length g5, .int .i64 mo] 41 (0, 0)) := by rw [he_w1]; exact (blk_alloc (blk_new_at (w.alloc (.cells #[.int .i64 d1, .int .i64 f1, .slice A1 ss1.length c1, .int .i64 d2, .int .i64 f2, .slice A2 ss2.length c2, .slice A3 st.length c3, .slice A4 P.length c4, .slice A5 pp.length c5, .int .i64 m] 41)) (.cells #[.int .i64 d1o, .int .i64 f1o, .slice E1 ss1o.length g1, .int .i64 d2o, .int .i64 f2o, .slice E2 ss2o.length g2, .slice E3 sto.length g3, .slice E4 Po.length g4, .slice E5 ppo.length g5, .int .i64 mo] 41) (k := w.heap.size + 1) (by simp [World.setCell])) _)
  have hk_r_w1 : w1.heap[w.heap.size + 1 + 1]? = some (.cells #[.int .i64 0, .int .i64 0, .slice none 0 0, .int .i64 0, .int .i64 0, .slice none 0 0, .slice none 0 0, .slice none 0 0, .slice none 0 0, .int .i64 0] 41 (0, 0)) := by rw [he_w1]; exact (blk_new_at ((w.alloc (.cells #[.int .i64 d1, .int .i64 f1, .slice A1 ss1.length c1, .int .i64 d2, .int .i64 f2, .slice A2 ss2.length c2, .slice A3 st.length c3, .slice A4 P.length c4, .slice A5 pp.length c5, .int .i64 m] 41)).alloc (.cells #[.int .i64 d1o, .int .i64 f1o, .slice E1 ss1o.length g1, .int .i64 d2o, .int .i64 f2o, .slice E2 ss2o.length g2, .slice E3 sto.length g3, .slice E4 Po.length g4, .slice E5 ppo.length g5, .int .i64 mo] 41)) (.cells #[.int .i64 0, .int .i64 0, .slice none 0 0, .int .i64 0, .int .i64 0, .slice none 0 0, .slice none 0 0, .slice none 0 0, .slice none 0 0, .int .i64 0] 41) (k := w.heap.size + 1 + 1) (by simp [World.setCell]))
  have hbw_w1 : Below w.heap.size w w1 := by rw [he_w1]; exact bel
  have hsw_w1 := hbw_w1.size
  have hch_w1 : w.heap.size ≤ w1.heap.size := by rw [he_w1]; simp [World.setCell]; try omega
  rw [← he_w1]
  clear he_w1
  refine (i_WorkshopOk d1 f1 ss1 d2 f2 ss2 st P pp m B A1 A2 A3 A4 A5 c1 c2 c3 c4 c5 w1 (hS.below (hbw_w1.mono hB)) (Nat.le_trans hB hsw_w1)).mono ?_
  rw [H1.out]
  rintro e w2 ⟨rfl, hb_w2⟩
  have hk_a_w2 := blk_next hk_a_w1 hb_w2
  have hk_b_w2 := blk_next hk_b_w1 hb_w2
  have hk_r_w2 := blk_next hk_r_w1 hb_w2
  have hbw_w2 : Below w.heap.size w w2 := hbw_w1.trans (hb_w2.mono hsw_w1)
  have hsw_w2 := hbw_w2.size
  have hch_w2 : w1.heap.size ≤ w2.heap.size := hb_w2.size
  clear hk_a_w1 hk_b_w1 hk_r_w1 hbw_w1 hsw_w1 hb_w2
  obtain ⟨x0_b, x1_b, x2_b, x3_b, x4_b, x5_b, x6_b, x7_b, x8_b, x9_b, xl_b⟩ := blk10 hk_b_w2
  go_wp2_with fail
  clear x0_b x1_b x2_b x3_b x4_b x5_b x6_b x7_b x8_b x9_b xl_b
  refine (i_WorkshopOk d1o f1o ss1o d2o f2o ss2o sto Po ppo mo B2 E1 E2 E3 E4 E5 g1 g2 g3 g4 g5 w2 (hO.below (hbw_w2.mono hB2)) (Nat.le_trans hB2 hsw_w2)).mono ?_
  rw [H2.out]
  rintro e w3 ⟨rfl, hb_w3⟩
  have hk_a_w3 := blk_next hk_a_w2 hb_w3
  have hk_b_w3 := blk_next hk_b_w2 hb_w3
  have hk_r_w3 := blk_next hk_r_w2 hb_w3
  have hbw_w3 : Below w.heap.size w w3 := hbw_w2.trans (hb_w3.mono hsw_w2)
  have hsw_w3 := hbw_w3.size
  have hch_w3 : w2.heap.size ≤ w3.heap.size := hb_w3.size
  clear hk_a_w2 hk_b_w2 hk_r_w2 hbw_w2 hsw_w2 hb_w3
  obtain ⟨x0_b, x1_b, x2_b, x3_b, x4_b, x5_b, x6_b, x7_b, x8_b, x9_b, xl_b⟩ := blk10 hk_b_w3
  obtain ⟨x0_r, x1_r, x2_r, x3_r, x4_r, x5_r, x6_r, x7_r, x8_r, x9_r, xl_r⟩ := blk10 hk_r_w3
  have f0_r := (blk_cells hk_r_w3 0).2
  have f1_r := (blk_cells hk_r_w3 1).2
  have f2_r := (blk_cells hk_r_w3 2).2
  have f3_r := (blk_cells hk_r_w3 3).2
  have f4_r := (blk_cells hk_r_w3 4).2
  have f5_r := (blk_cells hk_r_w3 5).2
  have f6_r := (blk_cells hk_r_w3 6).2
  have f7_r := (blk_cells hk_r_w3 7).2
  have f8_r := (blk_cells hk_r_w3 8).2
  have f9_r := (blk_cells hk_r_w3 9).2
  go_wp2
  have hbx_r := boxAt_of hk_r_w3
  refine bodyPost_ret (v := .tuple #[.agg #[.int .i64 d1o, .int .i64 f1o, .slice E1 ss1o.length g1, .int .i64 d2o, .int .i64 f2o, .slice E2 ss2o.length g2, .slice E3 sto.length g3, .slice E4 Po.length g4, .slice E5 ppo.length g5, .int .i64 mo], .bool true]) (by simp [results, Tryz.results92, go_sem, *]) rfl ?_
  clear x0_b x1_b x2_b x3_b x4_b x5_b x6_b x7_b x8_b x9_b xl_b x0_r x1_r x2_r x3_r x4_r x5_r x6_r x7_r x8_r x9_r xl_r f0_r f1_r f2_r f3_r f4_r f5_r f6_r f7_r f8_r f9_r
  obtain ⟨wE, heE⟩ : ∃ x, x = ((((((((((w3.setCell ⟨w.heap.size + 1 + 1, 0, none⟩ (.int .i64 d1o)).setCell ⟨w.heap.size + 1 + 1, 1, none⟩ (.int .i64 f1o)).setCell ⟨w.heap.size + 1 + 1, 2, none⟩ (.slice E1 ss1o.length g1)).setCell ⟨w.heap.size + 1 + 1, 3, none⟩ (.int .i64 d2o)).setCell ⟨w.heap.size + 1 + 1, 4, none⟩ (.int .i64 f2o)).setCell ⟨w.heap.size + 1 + 1, 5, none⟩ (.slice E2 ss2o.length g2)).setCell ⟨w.heap.size + 1 + 1, 6, none⟩ (.slice E3 sto.length g3)).setCell ⟨w.heap.size + 1 + 1, 7, none⟩ (.slice E4 Po.length g4)).setCell ⟨w.heap.size + 1 + 1, 8, none⟩ (.slice E5 ppo.length g5)).setCell ⟨w.heap.size + 1 + 1, 9, none⟩ (.int .i64 mo)) := ⟨_, rfl⟩
  have hBW : Below w.heap.size w wE := by rw [heE]; exact bel
  have hsE : wE.heap.size = w3.heap.size := by rw [heE]; simp [World.setCell]
  rw [← heE]
  clear heE
  exact ⟨rfl, hBW⟩
set_option maxHeartbeats 3200000 in
theorem i_wchanged_no (d1 f1 : Int) (ss1 : List ByteArray) (d2 f2 : Int) (ss2 : List ByteArray) (st : List PStep) (P : List PItem) (pp : List PPaper) (m : Int) (d1o f1o : Int) (ss1o : List ByteArray) (d2o f2o : Int) (ss2o : List ByteArray) (sto : List PStep) (Po : List PItem) (ppo : List PPaper) (mo : Int) (A1 A2 A3 A4 A5 : Option Addr) (c1 c2 c3 c4 c5 : Nat) (E1 E2 E3 E4 E5 : Option Addr) (g1 g2 g3 g4 g5 : Nat) (b : Bool) (B B2 : Nat) (w : World) (hS : RdWork w B A1 A2 A3 A4 c4 A5 ⟨d1, f1, ss1, d2, f2, ss2, st⟩ P pp) (hB : B ≤ w.heap.size) (hO : RdWork w B2 E1 E2 E3 E4 g4 E5 ⟨d1o, f1o, ss1o, d2o, f2o, ss2o, sto⟩ Po ppo) (hB2 : B2 ≤ w.heap.size) (hn : (b && (workOk ⟨⟨d1, f1, ss1, d2, f2, ss2, st⟩, P, pp, m⟩ && workOk ⟨⟨d1o, f1o, ss1o, d2o, f2o, ss2o, sto⟩, Po, ppo, mo⟩)) = false) :
    Calls Tryz.prog 92 #[.agg #[.int .i64 d1, .int .i64 f1, .slice A1 ss1.length c1, .int .i64 d2, .int .i64 f2, .slice A2 ss2.length c2, .slice A3 st.length c3, .slice A4 P.length c4, .slice A5 pp.length c5, .int .i64 m], .agg #[.int .i64 d1o, .int .i64 f1o, .slice E1 ss1o.length g1, .int .i64 d2o, .int .i64 f2o, .slice E2 ss2o.length g2, .slice E3 sto.length g3, .slice E4 Po.length g4, .slice E5 ppo.length g5, .int .i64 mo], .bool b] w (UWorkB d1 f1 ss1 d2 f2 ss2 st P pp m false w) := by
  cases b
  case false =>
    clear hn
    go_enter Tryz.func92, Tryz.ntmps92
    go_wp2_with fail
    obtain ⟨w1, he_w1⟩ : ∃ x, x = (((w.alloc (.cells #[.int .i64 d1, .int .i64 f1, .slice A1 ss1.length c1, .int .i64 d2, .int .i64 f2, .slice A2 ss2.length c2, .slice A3 st.length c3, .slice A4 P.length c4, .slice A5 pp.length c5, .int .i64 m] 41)).alloc (.cells #[.int .i64 d1o, .int .i64 f1o, .slice E1 ss1o.length g1, .int .i64 d2o, .int .i64 f2o, .slice E2 ss2o.length g2, .slice E3 sto.length g3, .slice E4 Po.length g4, .slice E5 ppo.length g5, .int .i64 mo] 41)).alloc (.cells #[.int .i64 0, .int .i64 0, .slice none 0 0, .int .i64 0, .int .i64 0, .slice none 0 0, .slice none 0 0, .slice none 0 0, .slice none 0 0, .int .i64 0] 41)) := ⟨_, rfl⟩
    have hk_a_w1 : w1.heap[w.heap.size]? = some (.cells #[.int .i64 d1, .int .i64 f1, .slice A1 ss1.length c1, .int .i64 d2, .int .i64 f2, .slice A2 ss2.length c2, .slice A3 st.length c3, .slice A4 P.length c4, .slice A5 pp.length c5, .int .i64 m] 41 (0, 0)) := by rw [he_w1]; exact (blk_alloc (blk_alloc (blk_new_at w (.cells #[.int .i64 d1, .int .i64 f1, .slice A1 ss1.length c1, .int .i64 d2, .int .i64 f2, .slice A2 ss2.length c2, .slice A3 st.length c3, .slice A4 P.length c4, .slice A5 pp.length c5, .int .i64 m] 41) (k := w.heap.size) (by simp [World.setCell])) _) _)
    have hk_b_w1 : w1.heap[w.heap.size + 1]? = some (.cells #[.int .i64 d1o, .int .i64 f1o, .slice E1 ss1o.length g1, .int .i64 d2o, .int .i64 f2o, .slice E2 ss2o.length g2, .slice E3 sto.length g3, .slice E4 Po.length g4, .slice E5 ppo.length g5, .int .i64 mo] 41 (0, 0)) := by rw [he_w1]; exact (blk_alloc (blk_new_at (w.alloc (.cells #[.int .i64 d1, .int .i64 f1, .slice A1 ss1.length c1, .int .i64 d2, .int .i64 f2, .slice A2 ss2.length c2, .slice A3 st.length c3, .slice A4 P.length c4, .slice A5 pp.length c5, .int .i64 m] 41)) (.cells #[.int .i64 d1o, .int .i64 f1o, .slice E1 ss1o.length g1, .int .i64 d2o, .int .i64 f2o, .slice E2 ss2o.length g2, .slice E3 sto.length g3, .slice E4 Po.length g4, .slice E5 ppo.length g5, .int .i64 mo] 41) (k := w.heap.size + 1) (by simp [World.setCell])) _)
    have hk_r_w1 : w1.heap[w.heap.size + 1 + 1]? = some (.cells #[.int .i64 0, .int .i64 0, .slice none 0 0, .int .i64 0, .int .i64 0, .slice none 0 0, .slice none 0 0, .slice none 0 0, .slice none 0 0, .int .i64 0] 41 (0, 0)) := by rw [he_w1]; exact (blk_new_at ((w.alloc (.cells #[.int .i64 d1, .int .i64 f1, .slice A1 ss1.length c1, .int .i64 d2, .int .i64 f2, .slice A2 ss2.length c2, .slice A3 st.length c3, .slice A4 P.length c4, .slice A5 pp.length c5, .int .i64 m] 41)).alloc (.cells #[.int .i64 d1o, .int .i64 f1o, .slice E1 ss1o.length g1, .int .i64 d2o, .int .i64 f2o, .slice E2 ss2o.length g2, .slice E3 sto.length g3, .slice E4 Po.length g4, .slice E5 ppo.length g5, .int .i64 mo] 41)) (.cells #[.int .i64 0, .int .i64 0, .slice none 0 0, .int .i64 0, .int .i64 0, .slice none 0 0, .slice none 0 0, .slice none 0 0, .slice none 0 0, .int .i64 0] 41) (k := w.heap.size + 1 + 1) (by simp [World.setCell]))
    have hbw_w1 : Below w.heap.size w w1 := by rw [he_w1]; exact bel
    have hsw_w1 := hbw_w1.size
    have hch_w1 : w.heap.size ≤ w1.heap.size := by rw [he_w1]; simp [World.setCell]; try omega
    rw [← he_w1]
    clear he_w1
    refine (i_workCopied d1 f1 ss1 d2 f2 ss2 st P pp m B A1 A2 A3 A4 A5 c1 c2 c3 c4 c5 w1 (hS.below (hbw_w1.mono hB)) (Nat.le_trans hB hsw_w1)).mono ?_
    rintro e w2 ⟨B1, e1, B2q, e2, B3, e3, B4, e4, B5, e5, rfl, hon, hb_w2⟩
    have hk_a_w2 := blk_next hk_a_w1 hb_w2
    have hk_b_w2 := blk_next hk_b_w1 hb_w2
    have hk_r_w2 := blk_next hk_r_w1 hb_w2
    have hbw_w2 : Below w.heap.size w w2 := hbw_w1.trans (hb_w2.mono hsw_w1)
    have hsw_w2 := hbw_w2.size
    have hch_w2 : w1.heap.size ≤ w2.heap.size := hb_w2.size
    clear hk_a_w1 hk_b_w1 hk_r_w1 hbw_w1 hsw_w1 hb_w2
    have ho_c_w2 := hon
    clear hon
    have hoW := ho_c_w2.wide (lo' := w.heap.size) (hi' := w2.heap.size) (by omega) (Nat.le_refl _)
    clear ho_c_w2
    obtain ⟨x0_r, x1_r, x2_r, x3_r, x4_r, x5_r, x6_r, x7_r, x8_r, x9_r, xl_r⟩ := blk10 hk_r_w2
    have f0_r := (blk_cells hk_r_w2 0).2
    have f1_r := (blk_cells hk_r_w2 1).2
    have f2_r := (blk_cells hk_r_w2 2).2
    have f3_r := (blk_cells hk_r_w2 3).2
    have f4_r := (blk_cells hk_r_w2 4).2
    have f5_r := (blk_cells hk_r_w2 5).2
    have f6_r := (blk_cells hk_r_w2 6).2
    have f7_r := (blk_cells hk_r_w2 7).2
    have f8_r := (blk_cells hk_r_w2 8).2
    have f9_r := (blk_cells hk_r_w2 9).2
    go_wp2
    have hbx_r := boxAt_of hk_r_w2
    refine bodyPost_ret (v := .tuple #[.agg #[.int .i64 d1, .int .i64 f1, .slice B1 ss1.length e1, .int .i64 d2, .int .i64 f2, .slice B2q ss2.length e2, .slice B3 st.length e3, .slice B4 P.length e4, .slice B5 pp.length e5, .int .i64 m], .bool false]) (by simp [results, Tryz.results92, go_sem, *]) rfl ?_
    clear x0_r x1_r x2_r x3_r x4_r x5_r x6_r x7_r x8_r x9_r xl_r f0_r f1_r f2_r f3_r f4_r f5_r f6_r f7_r f8_r f9_r
    obtain ⟨wE, heE⟩ : ∃ x, x = ((((((((((w2.setCell ⟨w.heap.size + 1 + 1, 0, none⟩ (.int .i64 d1)).setCell ⟨w.heap.size + 1 + 1, 1, none⟩ (.int .i64 f1)).setCell ⟨w.heap.size + 1 + 1, 2, none⟩ (.slice B1 ss1.length e1)).setCell ⟨w.heap.size + 1 + 1, 3, none⟩ (.int .i64 d2)).setCell ⟨w.heap.size + 1 + 1, 4, none⟩ (.int .i64 f2)).setCell ⟨w.heap.size + 1 + 1, 5, none⟩ (.slice B2q ss2.length e2)).setCell ⟨w.heap.size + 1 + 1, 6, none⟩ (.slice B3 st.length e3)).setCell ⟨w.heap.size + 1 + 1, 7, none⟩ (.slice B4 P.length e4)).setCell ⟨w.heap.size + 1 + 1, 8, none⟩ (.slice B5 pp.length e5)).setCell ⟨w.heap.size + 1 + 1, 9, none⟩ (.int .i64 m)) := ⟨_, rfl⟩
    have hBX : Boxy w2 wE := by rw [heE]; exact boxy
    have hBW : Below w.heap.size w wE := by rw [heE]; exact bel
    have hsE : wE.heap.size = w2.heap.size := by rw [heE]; simp [World.setCell]
    rw [← heE]
    clear heE
    exact ⟨B1, e1, B2q, e2, B3, e3, B4, e4, B5, e5, rfl, (hoW.boxy hBX).wide (Nat.le_refl _) (by omega), hBW⟩
  case true =>
    cases h1 : workOk ⟨⟨d1, f1, ss1, d2, f2, ss2, st⟩, P, pp, m⟩
    case false =>
      have H1 := Lib.hid h1
      clear hn h1
      go_enter Tryz.func92, Tryz.ntmps92
      go_wp2_with fail
      obtain ⟨w1, he_w1⟩ : ∃ x, x = (((w.alloc (.cells #[.int .i64 d1, .int .i64 f1, .slice A1 ss1.length c1, .int .i64 d2, .int .i64 f2, .slice A2 ss2.length c2, .slice A3 st.length c3, .slice A4 P.length c4, .slice A5 pp.length c5, .int .i64 m] 41)).alloc (.cells #[.int .i64 d1o, .int .i64 f1o, .slice E1 ss1o.length g1, .int .i64 d2o, .int .i64 f2o, .slice E2 ss2o.length g2, .slice E3 sto.length g3, .slice E4 Po.length g4, .slice E5 ppo.length g5, .int .i64 mo] 41)).alloc (.cells #[.int .i64 0, .int .i64 0, .slice none 0 0, .int .i64 0, .int .i64 0, .slice none 0 0, .slice none 0 0, .slice none 0 0, .slice none 0 0, .int .i64 0] 41)) := ⟨_, rfl⟩
      have hk_a_w1 : w1.heap[w.heap.size]? = some (.cells #[.int .i64 d1, .int .i64 f1, .slice A1 ss1.length c1, .int .i64 d2, .int .i64 f2, .slice A2 ss2.length c2, .slice A3 st.length c3, .slice A4 P.length c4, .slice A5 pp.length c5, .int .i64 m] 41 (0, 0)) := by rw [he_w1]; exact (blk_alloc (blk_alloc (blk_new_at w (.cells #[.int .i64 d1, .int .i64 f1, .slice A1 ss1.length c1, .int .i64 d2, .int .i64 f2, .slice A2 ss2.length c2, .slice A3 st.length c3, .slice A4 P.length c4, .slice A5 pp.length c5, .int .i64 m] 41) (k := w.heap.size) (by simp [World.setCell])) _) _)
      have hk_b_w1 : w1.heap[w.heap.size + 1]? = some (.cells #[.int .i64 d1o, .int .i64 f1o, .slice E1 ss1o.length g1, .int .i64 d2o, .int .i64 f2o, .slice E2 ss2o.length g2, .slice E3 sto.length g3, .slice E4 Po.length g4, .slice E5 ppo.length g5, .int .i64 mo] 41 (0, 0)) := by rw [he_w1]; exact (blk_alloc (blk_new_at (w.alloc (.cells #[.int .i64 d1, .int .i64 f1, .slice A1 ss1.length c1, .int .i64 d2, .int .i64 f2, .slice A2 ss2.length c2, .slice A3 st.length c3, .slice A4 P.length c4, .slice A5 pp.length c5, .int .i64 m] 41)) (.cells #[.int .i64 d1o, .int .i64 f1o, .slice E1 ss1o.length g1, .int .i64 d2o, .int .i64 f2o, .slice E2 ss2o.length g2, .slice E3 sto.length g3, .slice E4 Po.length g4, .slice E5 ppo.length g5, .int .i64 mo] 41) (k := w.heap.size + 1) (by simp [World.setCell])) _)
      have hk_r_w1 : w1.heap[w.heap.size + 1 + 1]? = some (.cells #[.int .i64 0, .int .i64 0, .slice none 0 0, .int .i64 0, .int .i64 0, .slice none 0 0, .slice none 0 0, .slice none 0 0, .slice none 0 0, .int .i64 0] 41 (0, 0)) := by rw [he_w1]; exact (blk_new_at ((w.alloc (.cells #[.int .i64 d1, .int .i64 f1, .slice A1 ss1.length c1, .int .i64 d2, .int .i64 f2, .slice A2 ss2.length c2, .slice A3 st.length c3, .slice A4 P.length c4, .slice A5 pp.length c5, .int .i64 m] 41)).alloc (.cells #[.int .i64 d1o, .int .i64 f1o, .slice E1 ss1o.length g1, .int .i64 d2o, .int .i64 f2o, .slice E2 ss2o.length g2, .slice E3 sto.length g3, .slice E4 Po.length g4, .slice E5 ppo.length g5, .int .i64 mo] 41)) (.cells #[.int .i64 0, .int .i64 0, .slice none 0 0, .int .i64 0, .int .i64 0, .slice none 0 0, .slice none 0 0, .slice none 0 0, .slice none 0 0, .int .i64 0] 41) (k := w.heap.size + 1 + 1) (by simp [World.setCell]))
      have hbw_w1 : Below w.heap.size w w1 := by rw [he_w1]; exact bel
      have hsw_w1 := hbw_w1.size
      have hch_w1 : w.heap.size ≤ w1.heap.size := by rw [he_w1]; simp [World.setCell]; try omega
      rw [← he_w1]
      clear he_w1
      refine (i_WorkshopOk d1 f1 ss1 d2 f2 ss2 st P pp m B A1 A2 A3 A4 A5 c1 c2 c3 c4 c5 w1 (hS.below (hbw_w1.mono hB)) (Nat.le_trans hB hsw_w1)).mono ?_
      rw [H1.out]
      rintro e w2 ⟨rfl, hb_w2⟩
      have hk_a_w2 := blk_next hk_a_w1 hb_w2
      have hk_b_w2 := blk_next hk_b_w1 hb_w2
      have hk_r_w2 := blk_next hk_r_w1 hb_w2
      have hbw_w2 : Below w.heap.size w w2 := hbw_w1.trans (hb_w2.mono hsw_w1)
      have hsw_w2 := hbw_w2.size
      have hch_w2 : w1.heap.size ≤ w2.heap.size := hb_w2.size
      clear hk_a_w1 hk_b_w1 hk_r_w1 hbw_w1 hsw_w1 hb_w2
      obtain ⟨x0_a, x1_a, x2_a, x3_a, x4_a, x5_a, x6_a, x7_a, x8_a, x9_a, xl_a⟩ := blk10 hk_a_w2
      go_wp2_with fail
      clear x0_a x1_a x2_a x3_a x4_a x5_a x6_a x7_a x8_a x9_a xl_a
      refine (i_workCopied d1 f1 ss1 d2 f2 ss2 st P pp m B A1 A2 A3 A4 A5 c1 c2 c3 c4 c5 w2 (hS.below (hbw_w2.mono hB)) (Nat.le_trans hB hsw_w2)).mono ?_
      rintro e w3 ⟨B1, e1, B2q, e2, B3, e3, B4, e4, B5, e5, rfl, hon, hb_w3⟩
      have hk_a_w3 := blk_next hk_a_w2 hb_w3
      have hk_b_w3 := blk_next hk_b_w2 hb_w3
      have hk_r_w3 := blk_next hk_r_w2 hb_w3
      have hbw_w3 : Below w.heap.size w w3 := hbw_w2.trans (hb_w3.mono hsw_w2)
      have hsw_w3 := hbw_w3.size
      have hch_w3 : w2.heap.size ≤ w3.heap.size := hb_w3.size
      clear hk_a_w2 hk_b_w2 hk_r_w2 hbw_w2 hsw_w2 hb_w3
      have ho_c_w3 := hon
      clear hon
      have hoW := ho_c_w3.wide (lo' := w.heap.size) (hi' := w3.heap.size) (by omega) (Nat.le_refl _)
      clear ho_c_w3
      obtain ⟨x0_r, x1_r, x2_r, x3_r, x4_r, x5_r, x6_r, x7_r, x8_r, x9_r, xl_r⟩ := blk10 hk_r_w3
      have f0_r := (blk_cells hk_r_w3 0).2
      have f1_r := (blk_cells hk_r_w3 1).2
      have f2_r := (blk_cells hk_r_w3 2).2
      have f3_r := (blk_cells hk_r_w3 3).2
      have f4_r := (blk_cells hk_r_w3 4).2
      have f5_r := (blk_cells hk_r_w3 5).2
      have f6_r := (blk_cells hk_r_w3 6).2
      have f7_r := (blk_cells hk_r_w3 7).2
      have f8_r := (blk_cells hk_r_w3 8).2
      have f9_r := (blk_cells hk_r_w3 9).2
      go_wp2
      have hbx_r := boxAt_of hk_r_w3
      refine bodyPost_ret (v := .tuple #[.agg #[.int .i64 d1, .int .i64 f1, .slice B1 ss1.length e1, .int .i64 d2, .int .i64 f2, .slice B2q ss2.length e2, .slice B3 st.length e3, .slice B4 P.length e4, .slice B5 pp.length e5, .int .i64 m], .bool false]) (by simp [results, Tryz.results92, go_sem, *]) rfl ?_
      clear x0_r x1_r x2_r x3_r x4_r x5_r x6_r x7_r x8_r x9_r xl_r f0_r f1_r f2_r f3_r f4_r f5_r f6_r f7_r f8_r f9_r
      obtain ⟨wE, heE⟩ : ∃ x, x = ((((((((((w3.setCell ⟨w.heap.size + 1 + 1, 0, none⟩ (.int .i64 d1)).setCell ⟨w.heap.size + 1 + 1, 1, none⟩ (.int .i64 f1)).setCell ⟨w.heap.size + 1 + 1, 2, none⟩ (.slice B1 ss1.length e1)).setCell ⟨w.heap.size + 1 + 1, 3, none⟩ (.int .i64 d2)).setCell ⟨w.heap.size + 1 + 1, 4, none⟩ (.int .i64 f2)).setCell ⟨w.heap.size + 1 + 1, 5, none⟩ (.slice B2q ss2.length e2)).setCell ⟨w.heap.size + 1 + 1, 6, none⟩ (.slice B3 st.length e3)).setCell ⟨w.heap.size + 1 + 1, 7, none⟩ (.slice B4 P.length e4)).setCell ⟨w.heap.size + 1 + 1, 8, none⟩ (.slice B5 pp.length e5)).setCell ⟨w.heap.size + 1 + 1, 9, none⟩ (.int .i64 m)) := ⟨_, rfl⟩
      have hBX : Boxy w3 wE := by rw [heE]; exact boxy
      have hBW : Below w.heap.size w wE := by rw [heE]; exact bel
      have hsE : wE.heap.size = w3.heap.size := by rw [heE]; simp [World.setCell]
      rw [← heE]
      clear heE
      exact ⟨B1, e1, B2q, e2, B3, e3, B4, e4, B5, e5, rfl, (hoW.boxy hBX).wide (Nat.le_refl _) (by omega), hBW⟩
    case true =>
      have h2 : workOk ⟨⟨d1o, f1o, ss1o, d2o, f2o, ss2o, sto⟩, Po, ppo, mo⟩ = false := by rw [h1] at hn; simpa using hn
      have H1 := Lib.hid h1
      have H2 := Lib.hid h2
      clear hn h1 h2
      go_enter Tryz.func92, Tryz.ntmps92
      go_wp2_with fail
      obtain ⟨w1, he_w1⟩ : ∃ x, x = (((w.alloc (.cells #[.int .i64 d1, .int .i64 f1, .slice A1 ss1.length c1, .int .i64 d2, .int .i64 f2, .slice A2 ss2.length c2, .slice A3 st.length c3, .slice A4 P.length c4, .slice A5 pp.length c5, .int .i64 m] 41)).alloc (.cells #[.int .i64 d1o, .int .i64 f1o, .slice E1 ss1o.length g1, .int .i64 d2o, .int .i64 f2o, .slice E2 ss2o.length g2, .slice E3 sto.length g3, .slice E4 Po.length g4, .slice E5 ppo.length g5, .int .i64 mo] 41)).alloc (.cells #[.int .i64 0, .int .i64 0, .slice none 0 0, .int .i64 0, .int .i64 0, .slice none 0 0, .slice none 0 0, .slice none 0 0, .slice none 0 0, .int .i64 0] 41)) := ⟨_, rfl⟩
      have hk_a_w1 : w1.heap[w.heap.size]? = some (.cells #[.int .i64 d1, .int .i64 f1, .slice A1 ss1.length c1, .int .i64 d2, .int .i64 f2, .slice A2 ss2.length c2, .slice A3 st.length c3, .slice A4 P.length c4, .slice A5 pp.length c5, .int .i64 m] 41 (0, 0)) := by rw [he_w1]; exact (blk_alloc (blk_alloc (blk_new_at w (.cells #[.int .i64 d1, .int .i64 f1, .slice A1 ss1.length c1, .int .i64 d2, .int .i64 f2, .slice A2 ss2.length c2, .slice A3 st.length c3, .slice A4 P.length c4, .slice A5 pp.length c5, .int .i64 m] 41) (k := w.heap.size) (by simp [World.setCell])) _) _)
      have hk_b_w1 : w1.heap[w.heap.size + 1]? = some (.cells #[.int .i64 d1o, .int .i64 f1o, .slice E1 ss1o.length g1, .int .i64 d2o, .int .i64 f2o, .slice E2 ss2o.length g2, .slice E3 sto.length g3, .slice E4 Po.length g4, .slice E5 ppo.length g5, .int .i64 mo] 41 (0, 0)) := by rw [he_w1]; exact (blk_alloc (blk_new_at (w.alloc (.cells #[.int .i64 d1, .int .i64 f1, .slice A1 ss1.length c1, .int .i64 d2, .int .i64 f2, .slice A2 ss2.length c2, .slice A3 st.length c3, .slice A4 P.length c4, .slice A5 pp.length c5, .int .i64 m] 41)) (.cells #[.int .i64 d1o, .int .i64 f1o, .slice E1 ss1o.length g1, .int .i64 d2o, .int .i64 f2o, .slice E2 ss2o.length g2, .slice E3 sto.length g3, .slice E4 Po.length g4, .slice E5 ppo.length g5, .int .i64 mo] 41) (k := w.heap.size + 1) (by simp [World.setCell])) _)
      have hk_r_w1 : w1.heap[w.heap.size + 1 + 1]? = some (.cells #[.int .i64 0, .int .i64 0, .slice none 0 0, .int .i64 0, .int .i64 0, .slice none 0 0, .slice none 0 0, .slice none 0 0, .slice none 0 0, .int .i64 0] 41 (0, 0)) := by rw [he_w1]; exact (blk_new_at ((w.alloc (.cells #[.int .i64 d1, .int .i64 f1, .slice A1 ss1.length c1, .int .i64 d2, .int .i64 f2, .slice A2 ss2.length c2, .slice A3 st.length c3, .slice A4 P.length c4, .slice A5 pp.length c5, .int .i64 m] 41)).alloc (.cells #[.int .i64 d1o, .int .i64 f1o, .slice E1 ss1o.length g1, .int .i64 d2o, .int .i64 f2o, .slice E2 ss2o.length g2, .slice E3 sto.length g3, .slice E4 Po.length g4, .slice E5 ppo.length g5, .int .i64 mo] 41)) (.cells #[.int .i64 0, .int .i64 0, .slice none 0 0, .int .i64 0, .int .i64 0, .slice none 0 0, .slice none 0 0, .slice none 0 0, .slice none 0 0, .int .i64 0] 41) (k := w.heap.size + 1 + 1) (by simp [World.setCell]))
      have hbw_w1 : Below w.heap.size w w1 := by rw [he_w1]; exact bel
      have hsw_w1 := hbw_w1.size
      have hch_w1 : w.heap.size ≤ w1.heap.size := by rw [he_w1]; simp [World.setCell]; try omega
      rw [← he_w1]
      clear he_w1
      refine (i_WorkshopOk d1 f1 ss1 d2 f2 ss2 st P pp m B A1 A2 A3 A4 A5 c1 c2 c3 c4 c5 w1 (hS.below (hbw_w1.mono hB)) (Nat.le_trans hB hsw_w1)).mono ?_
      rw [H1.out]
      rintro e w2 ⟨rfl, hb_w2⟩
      have hk_a_w2 := blk_next hk_a_w1 hb_w2
      have hk_b_w2 := blk_next hk_b_w1 hb_w2
      have hk_r_w2 := blk_next hk_r_w1 hb_w2
      have hbw_w2 : Below w.heap.size w w2 := hbw_w1.trans (hb_w2.mono hsw_w1)
      have hsw_w2 := hbw_w2.size
      have hch_w2 : w1.heap.size ≤ w2.heap.size := hb_w2.size
      clear hk_a_w1 hk_b_w1 hk_r_w1 hbw_w1 hsw_w1 hb_w2
      obtain ⟨x0_b, x1_b, x2_b, x3_b, x4_b, x5_b, x6_b, x7_b, x8_b, x9_b, xl_b⟩ := blk10 hk_b_w2
      go_wp2_with fail
      clear x0_b x1_b x2_b x3_b x4_b x5_b x6_b x7_b x8_b x9_b xl_b
      refine (i_WorkshopOk d1o f1o ss1o d2o f2o ss2o sto Po ppo mo B2 E1 E2 E3 E4 E5 g1 g2 g3 g4 g5 w2 (hO.below (hbw_w2.mono hB2)) (Nat.le_trans hB2 hsw_w2)).mono ?_
      rw [H2.out]
      rintro e w3 ⟨rfl, hb_w3⟩
      have hk_a_w3 := blk_next hk_a_w2 hb_w3
      have hk_b_w3 := blk_next hk_b_w2 hb_w3
      have hk_r_w3 := blk_next hk_r_w2 hb_w3
      have hbw_w3 : Below w.heap.size w w3 := hbw_w2.trans (hb_w3.mono hsw_w2)
      have hsw_w3 := hbw_w3.size
      have hch_w3 : w2.heap.size ≤ w3.heap.size := hb_w3.size
      clear hk_a_w2 hk_b_w2 hk_r_w2 hbw_w2 hsw_w2 hb_w3
      obtain ⟨x0_a, x1_a, x2_a, x3_a, x4_a, x5_a, x6_a, x7_a, x8_a, x9_a, xl_a⟩ := blk10 hk_a_w3
      go_wp2_with fail
      clear x0_a x1_a x2_a x3_a x4_a x5_a x6_a x7_a x8_a x9_a xl_a
      refine (i_workCopied d1 f1 ss1 d2 f2 ss2 st P pp m B A1 A2 A3 A4 A5 c1 c2 c3 c4 c5 w3 (hS.below (hbw_w3.mono hB)) (Nat.le_trans hB hsw_w3)).mono ?_
      rintro e w4 ⟨B1, e1, B2q, e2, B3, e3, B4, e4, B5, e5, rfl, hon, hb_w4⟩
      have hk_a_w4 := blk_next hk_a_w3 hb_w4
      have hk_b_w4 := blk_next hk_b_w3 hb_w4
      have hk_r_w4 := blk_next hk_r_w3 hb_w4
      have hbw_w4 : Below w.heap.size w w4 := hbw_w3.trans (hb_w4.mono hsw_w3)
      have hsw_w4 := hbw_w4.size
      have hch_w4 : w3.heap.size ≤ w4.heap.size := hb_w4.size
      clear hk_a_w3 hk_b_w3 hk_r_w3 hbw_w3 hsw_w3 hb_w4
      have ho_c_w4 := hon
      clear hon
      have hoW := ho_c_w4.wide (lo' := w.heap.size) (hi' := w4.heap.size) (by omega) (Nat.le_refl _)
      clear ho_c_w4
      obtain ⟨x0_r, x1_r, x2_r, x3_r, x4_r, x5_r, x6_r, x7_r, x8_r, x9_r, xl_r⟩ := blk10 hk_r_w4
      have f0_r := (blk_cells hk_r_w4 0).2
      have f1_r := (blk_cells hk_r_w4 1).2
      have f2_r := (blk_cells hk_r_w4 2).2
      have f3_r := (blk_cells hk_r_w4 3).2
      have f4_r := (blk_cells hk_r_w4 4).2
      have f5_r := (blk_cells hk_r_w4 5).2
      have f6_r := (blk_cells hk_r_w4 6).2
      have f7_r := (blk_cells hk_r_w4 7).2
      have f8_r := (blk_cells hk_r_w4 8).2
      have f9_r := (blk_cells hk_r_w4 9).2
      go_wp2
      have hbx_r := boxAt_of hk_r_w4
      refine bodyPost_ret (v := .tuple #[.agg #[.int .i64 d1, .int .i64 f1, .slice B1 ss1.length e1, .int .i64 d2, .int .i64 f2, .slice B2q ss2.length e2, .slice B3 st.length e3, .slice B4 P.length e4, .slice B5 pp.length e5, .int .i64 m], .bool false]) (by simp [results, Tryz.results92, go_sem, *]) rfl ?_
      clear x0_r x1_r x2_r x3_r x4_r x5_r x6_r x7_r x8_r x9_r xl_r f0_r f1_r f2_r f3_r f4_r f5_r f6_r f7_r f8_r f9_r
      obtain ⟨wE, heE⟩ : ∃ x, x = ((((((((((w4.setCell ⟨w.heap.size + 1 + 1, 0, none⟩ (.int .i64 d1)).setCell ⟨w.heap.size + 1 + 1, 1, none⟩ (.int .i64 f1)).setCell ⟨w.heap.size + 1 + 1, 2, none⟩ (.slice B1 ss1.length e1)).setCell ⟨w.heap.size + 1 + 1, 3, none⟩ (.int .i64 d2)).setCell ⟨w.heap.size + 1 + 1, 4, none⟩ (.int .i64 f2)).setCell ⟨w.heap.size + 1 + 1, 5, none⟩ (.slice B2q ss2.length e2)).setCell ⟨w.heap.size + 1 + 1, 6, none⟩ (.slice B3 st.length e3)).setCell ⟨w.heap.size + 1 + 1, 7, none⟩ (.slice B4 P.length e4)).setCell ⟨w.heap.size + 1 + 1, 8, none⟩ (.slice B5 pp.length e5)).setCell ⟨w.heap.size + 1 + 1, 9, none⟩ (.int .i64 m)) := ⟨_, rfl⟩
      have hBX : Boxy w4 wE := by rw [heE]; exact boxy
      have hBW : Below w.heap.size w wE := by rw [heE]; exact bel
      have hsE : wE.heap.size = w4.heap.size := by rw [heE]; simp [World.setCell]
      rw [← heE]
      clear heE
      exact ⟨B1, e1, B2q, e2, B3, e3, B4, e4, B5, e5, rfl, (hoW.boxy hBX).wide (Nat.le_refl _) (by omega), hBW⟩
end Go.Proofs.YtdddglihomchfaaGreat
namespace Go.Proofs.YtdddglihomchfaaGreat
open Go.ChangeShapes Go.WideShapes Go.ChangeAt Go.RowKit
set_option linter.unusedVariables false
set_option maxRecDepth 10000
def otherC (c : UInt8) : UInt8 := if c = 100 then 102 else 100
end Go.Proofs.YtdddglihomchfaaGreat
namespace Go.Proofs.YtdddglihomchfaaGreat
open Go.ChangeShapes Go.WideShapes Go.ChangeAt Go.RowKit
set_option linter.unusedVariables false
set_option maxRecDepth 10000
def doRes (D : PDraft) (s : PStep) : PDraft × Bool :=
  if (draftOk D = true ∧ D.st.length ≠ 40) ∧ (stepRes true D.d2 D.f2 D.ss2 s.K s.F s.L s.T s.I s.b s.a).2 = true then (⟨D.d1, D.f1, D.ss1, D.d2, D.f2, (stepRes true D.d2 D.f2 D.ss2 s.K s.F s.L s.T s.I s.b s.a).1, D.st ++ [s]⟩, true) else (D, false)
end Go.Proofs.YtdddglihomchfaaGreat
namespace Go.Proofs.YtdddglihomchfaaGreat
open Go.ChangeShapes Go.WideShapes Go.ChangeAt Go.RowKit
set_option linter.unusedVariables false
set_option maxRecDepth 10000
def undoRes (D : PDraft) : PDraft × Bool :=
  if draftOk D = true then match D.st.getLast? with | some s => (⟨D.d1, D.f1, D.ss1, D.d2, D.f2, (stepRes false D.d2 D.f2 D.ss2 s.K s.F s.L s.T s.I s.b s.a).1, D.st.dropLast⟩, true) | none => (D, false) else (D, false)
end Go.Proofs.YtdddglihomchfaaGreat
namespace Go.Proofs.YtdddglihomchfaaGreat
open Go.ChangeShapes Go.WideShapes Go.ChangeAt Go.RowKit
set_option linter.unusedVariables false
set_option maxRecDepth 10000
def idxNm (P : List PItem) (name : ByteArray) : Option Nat := P.findIdx? fun x => decide (x.nm = name)
def noNm (P : List PItem) (name : ByteArray) (j : Nat) : Prop := ∀ i, i < j → ∀ x, P[i]? = some x → x.nm ≠ name
theorem noNm_zero (P : List PItem) (name : ByteArray) : noNm P name 0 := fun i hi => absurd hi (by omega)
theorem noNm_succ {P : List PItem} {name : ByteArray} {j : Nat} {x : PItem} (h : noNm P name j) (hx : P[j]? = some x) (hn : x.nm ≠ name) : noNm P name (j + 1) := by
  intro i hi y hy
  rcases Nat.lt_or_ge i j with h1 | h1
  · exact h i h1 y hy
  · have : i = j := by omega
    subst this
    rw [hx] at hy; injection hy with hy; subst hy; exact hn
theorem idxNm_some {P : List PItem} {name : ByteArray} {j : Nat} {x : PItem} (h : noNm P name j) (hx : P[j]? = some x) (hn : x.nm = name) : idxNm P name = some j := by
  unfold idxNm
  obtain ⟨hj, rfl⟩ := List.getElem?_eq_some_iff.1 hx
  rw [List.findIdx?_eq_some_iff_getElem]
  refine ⟨hj, by simpa using hn, fun i hi => ?_⟩
  have := h i hi _ (List.getElem?_eq_getElem (by omega))
  simpa using this
theorem idxNm_none {P : List PItem} {name : ByteArray} (h : noNm P name P.length) : idxNm P name = none := by
  unfold idxNm
  rw [List.findIdx?_eq_none_iff]
  intro x hx
  obtain ⟨i, hi, rfl⟩ := List.getElem_of_mem hx
  have := h i hi _ (List.getElem?_eq_getElem hi)
  simpa using this
def idxI (P : List PItem) (name : ByteArray) : Int := match idxNm P name with | some k => k | none => -1
set_option maxHeartbeats 400000 in
theorem c_itemNamed1 (nm name : ByteArray) (d f : Int) (A : Option Addr) (n c g : Nat) (w : World) (hg : w.cell? ⟨g, 0, none⟩ = some (.string name)) (hlt : g < w.heap.size) :
    Calls Tryz.prog 176 #[.agg #[.string nm, .int .i64 d, .int .i64 f, .slice A n c], .pointer (some ⟨g, 0, none⟩)] w fun e w' => e = .returned (.bool (decide (nm = name))) ∧ Below w.heap.size w w' := by
  by_cases h : nm = name
  · have hbq := beq_toList_true h
    have HD : Hid (decide (nm = name) = true) := by unfold Hid; simp [h]
    clear h
    go_enter Tryz.func176, Tryz.ntmps176
    go_wp2
    go_ret
    exact ⟨ret_bool HD.out.symm, bel⟩
  · have hbq := beq_toList_false h
    have HD : Hid (decide (nm = name) = false) := by unfold Hid; simp [h]
    clear h
    go_enter Tryz.func176, Tryz.ntmps176
    go_wp2
    go_ret
    exact ⟨ret_bool HD.out.symm, bel⟩
set_option maxHeartbeats 1600000 in
theorem idxFunc (name : ByteArray) (g : Nat) (P : List PItem) (B : Nat) (A : Option Addr) (n c : Nat) (L : List RItem) (w : World) (hp : plI L = P) (hS : Items w B A n L) (hB : B ≤ w.heap.size) (hg : w.cell? ⟨g, 0, none⟩ = some (.string name)) (hlt : g < w.heap.size) :
    Calls Tryz.prog 175 #[.slice A n c, .func (.func 176) #[] #[.pointer (some ⟨g, 0, none⟩)]] w fun e w' => e = .returned (.int .i64 (idxI P name)) ∧ Below w.heap.size w w' := by
  have hn := hS.nb
  have hl : P.length = n := by rw [← hp, plI_len, hS.len]
  have HL := Lib.hid hl
  have HP := Lib.hid hp
  clear hl hp
  go_enter Tryz.func175, Tryz.ntmps175
  go_wp2
  go_loopw [5, 8] (fun x i wr => ∃ j : Nat, j ≤ n ∧ i = .int .i64 j ∧ Hid (noNm P name j) ∧ Below w.heap.size w wr) (fun _ i _ => n - (intOf i).toNat)
  case atStart => exact ⟨0, Nat.zero_le _, rfl, noNm_zero _ _, Below.refl _ _⟩
  case round =>
    obtain ⟨j, hj, rfl, HN, hb⟩ := hrel
    have hzr := hb.size
    by_cases hltn : j < n
    · obtain ⟨hk1, ad, rfl, hab, hc0, hc1, hc2, hc3, hss, hnm⟩ := (hS.below (hb.mono hB)).at_ hltn
      have HX := Lib.hid (show P[j]? = some L[j].x by rw [← HP.out]; exact plI_at hk1)
      have hgr : wr.cell? ⟨g, 0, none⟩ = some (.string name) := by rw [hb.cell (p := ⟨g, 0, none⟩) hlt]; exact hg
      have hgl : g < wr.heap.size := by omega
      generalize L[j] = r at *
      have hcon := c_itemNamed1 r.x.nm name r.x.d r.x.f r.A r.x.ss.length r.c g wr hgr hgl
      by_cases hq : r.x.nm = name
      · have HF : Hid (idxI P name = j) := by unfold Hid idxI; rw [idxNm_some HN.out HX.out hq]
        rw [show decide (r.x.nm = name) = true by simp [hq]] at hcon
        have HC := hide hcon
        clear hq hcon
        go_wp2_with (go_at_call 176; refine (unhide HC).mono ?_; rintro e w1 ⟨rfl, hb1⟩)
        go_ret
        exact ⟨ret_int HF.out.symm, bel⟩
      · have HS := Lib.hid (noNm_succ HN.out HX.out hq)
        rw [show decide (r.x.nm = name) = false by simp [hq]] at hcon
        have HC := hide hcon
        clear hq hcon
        go_wp2_with (go_at_call 176; refine (unhide HC).mono ?_; rintro e w1 ⟨rfl, hb1⟩)
        go_roundw
        case rel => exact ⟨j + 1, by omega, by go_num, HS.out, bel⟩
        case measure => simp [intOf]; omega
    · have hjn : j = n := by omega
      have HF : Hid (idxI P name = -1) := by unfold Hid idxI; rw [idxNm_none (by rw [HL.out, ← hjn]; exact HN.out)]
      clear hjn
      go_wp2
      go_ret
      exact ⟨ret_int HF.out.symm, hb⟩
set_option maxHeartbeats 800000 in
theorem i_itemNamed (name : ByteArray) (P : List PItem) (B : Nat) (A : Option Addr) (n c : Nat) (L : List RItem) (w : World) (hp : plI L = P) (hS : Items w B A n L) (hB : B ≤ w.heap.size) :
    Calls Tryz.prog 149 #[.slice A n c, .string name] w fun e w' => e = .returned (.int .i64 (idxI P name)) ∧ Below w.heap.size w w' := by
  have hmf : ∀ (fn : Fn) (first cap : Array Value) (w : World), (Instr.makeFunc fn first cap).run Tryz.prog w = .ok (.func fn first cap) w := fun _ _ _ _ => rfl
  have hcon := idxFunc name w.heap.size P B A n c L (w.alloc (.cells #[.string name] 9)) hp (hS.alloc hB _) (by simp; omega) (by rw [World.cell?_alloc_mark]; rfl) (by simp)
  have HC := hide hcon
  clear hcon
  go_enter Tryz.func149, Tryz.ntmps149
  go_wp2_with (go_at_call 175; refine (unhide HC).mono ?_; rintro e w1 ⟨rfl, hb1⟩)
  go_ret
  exact ⟨rfl, bel⟩
def named (P : List PItem) (name : ByteArray) : (Int × Int) × (List ByteArray × Bool) :=
  if catOk P = true then match idxNm P name with | some k => (match P[k]? with | some x => ((x.d, x.f), (x.ss, true)) | none => ((0, 0), ([], false))) | none => ((0, 0), ([], false)) else ((0, 0), ([], false))
theorem named_no1 {P : List PItem} {name : ByteArray} (h : catOk P = false) : named P name = ((0, 0), ([], false)) := by unfold named; rw [h]; simp
theorem named_no2 {P : List PItem} {name : ByteArray} (h : idxNm P name = none) : named P name = ((0, 0), ([], false)) := by unfold named; rw [h]; split <;> rfl
theorem named_yes {P : List PItem} {name : ByteArray} {k : Nat} {x : PItem} (h : catOk P = true) (h2 : idxNm P name = some k) (h3 : P[k]? = some x) : named P name = ((x.d, x.f), (x.ss, true)) := by unfold named; rw [h, if_pos rfl, h2]; simp [h3]
theorem zeroCard (w w' : World) (hb : Below w.heap.size w w') : UCardB 0 0 [] false w (.returned (.tuple #[.agg #[.int .i64 0, .int .i64 0, .slice none 0 0], .bool false])) w' :=
  ⟨none, 0, rfl, ⟨World.ownsRow_nil w' _ _ _, fun k hk => by simp [Value.ownBlock] at hk⟩, hb⟩
theorem ucardB_cast {d f : Int} {ss : List ByteArray} {b : Bool} {q : (Int × Int) × (List ByteArray × Bool)} {w w' : World} {e : Ending} (h : q = ((d, f), (ss, b))) (hu : UCardB d f ss b w e w') : UCardB q.1.1 q.1.2 q.2.1 q.2.2 w e w' := by subst h; exact hu
set_option maxHeartbeats 3200000 in
theorem i_CardNamed (name : ByteArray) (P : List PItem) (B : Nat) (A : Option Addr) (n c : Nat) (L : List RItem) (w : World) (hp : plI L = P) (hS : Items w B A n L) (hB : B ≤ w.heap.size) :
    Calls Tryz.prog 102 #[.slice A n c, .string name] w (UCardB (named P name).1.1 (named P name).1.2 (named P name).2.1 (named P name).2.2 w) := by
  have hn := hS.nb
  have hix := fun (W : World) (hW : Below w.heap.size w W) => i_itemNamed name P B A n c L W hp (hS.below (hW.mono hB)) (Nat.le_trans hB hW.size)
  have hco := fun (W : World) (hW : Below w.heap.size w W) => i_CatalogOk P B A n c L W hp (hS.below (hW.mono hB)) (Nat.le_trans hB hW.size)
  cases hck : catOk P
  · have HR := Lib.hid (named_no1 (name := name) hck)
    simp only [hck] at hco
    have HIX := hide hix
    have HCO := hide hco
    clear hix hco hck
    go_enter Tryz.func102, Tryz.ntmps102
    go_wp2_with (first | (go_at_call 149; refine (unhide HIX _ (by exact bel)).mono ?_; rintro e w1 ⟨rfl, hb1⟩; obtain ⟨hcb1, hfb1⟩ := bcell hb1; have hz_w1_0 : w.heap.size < w1.heap.size := (by have hzz := hb1.size; (try simp at hzz); omega); have hy_w1_0 := Nat.le_of_lt hz_w1_0; (have hbw1 : Below w.heap.size w w1 := bel)) | (go_at_call 70; refine (unhide HCO _ hbw1).mono ?_; rintro e w2 ⟨rfl, hb2⟩; obtain ⟨hcb2, hfb2⟩ := bcell hb2; (have hz2 : w.heap.size < w2.heap.size := (by have := hb2.size; omega)); (have hbw2 : Below w.heap.size w w2 := hbw1.trans (hb2.mono hbw1.size))))
    refine bodyPost_ret (v := .tuple #[.agg #[.int .i64 0, .int .i64 0, .slice none 0 0], .bool false]) (by simp [results, Tryz.results102, go_sem, *]) rfl ?_
    exact ucardB_cast HR.out (zeroCard _ _ bel)
  · cases hk : idxNm P name with
    | none =>
      have HR := Lib.hid (named_no2 hk)
      have hI : idxI P name = -1 := by unfold idxI; rw [hk]
      simp only [hck] at hco
      simp only [hI] at hix
      have HIX := hide hix
      have HCO := hide hco
      clear hix hco hck hk hI
      go_enter Tryz.func102, Tryz.ntmps102
      go_wp2_with (first | (go_at_call 149; refine (unhide HIX _ (by exact bel)).mono ?_; rintro e w1 ⟨rfl, hb1⟩; obtain ⟨hcb1, hfb1⟩ := bcell hb1; have hz_w1_0 : w.heap.size < w1.heap.size := (by have hzz := hb1.size; (try simp at hzz); omega); have hy_w1_0 := Nat.le_of_lt hz_w1_0; (have hbw1 : Below w.heap.size w w1 := bel)) | (go_at_call 70; refine (unhide HCO _ hbw1).mono ?_; rintro e w2 ⟨rfl, hb2⟩; obtain ⟨hcb2, hfb2⟩ := bcell hb2; (have hz2 : w.heap.size < w2.heap.size := (by have := hb2.size; omega)); (have hbw2 : Below w.heap.size w w2 := hbw1.trans (hb2.mono hbw1.size))))
      refine bodyPost_ret (v := .tuple #[.agg #[.int .i64 0, .int .i64 0, .slice none 0 0], .bool false]) (by simp [results, Tryz.results102, go_sem, *]) rfl ?_
      exact ucardB_cast HR.out (zeroCard _ _ bel)
    | some k =>
      have hkP : k < P.length := by
        unfold idxNm at hk
        exact (List.findIdx?_eq_some_iff_getElem.1 hk).1
      have hl : P.length = n := by rw [← hp, plI_len, hS.len]
      have hI : idxI P name = k := by unfold idxI; rw [hk]
      have hkn : k < n := by omega
      obtain ⟨hk1, _⟩ := hS.at_ hkn
      have HR := Lib.hid (named_yes (x := L[k].x) hck hk (by rw [← hp]; exact plI_at hk1))
      simp only [hck] at hco
      simp only [hI] at hix
      have HIX := hide hix
      have HCO := hide hco
      clear hix hco hck hk hI hkP hl hp
      go_enter Tryz.func102, Tryz.ntmps102
      go_wp2_with (first | (go_at_call 149; refine (unhide HIX _ (by exact bel)).mono ?_; rintro e w1 ⟨rfl, hb1⟩; obtain ⟨hcb1, hfb1⟩ := bcell hb1; have hz_w1_0 : w.heap.size < w1.heap.size := (by have hzz := hb1.size; (try simp at hzz); omega); have hy_w1_0 := Nat.le_of_lt hz_w1_0; (have hbw1 : Below w.heap.size w w1 := bel)) | (go_at_call 70; refine (unhide HCO _ hbw1).mono ?_; rintro e w2 ⟨rfl, hb2⟩; obtain ⟨hcb2, hfb2⟩ := bcell hb2; (have hz2 : w.heap.size < w2.heap.size := (by have := hb2.size; omega)); (have hbw2 : Below w.heap.size w w2 := hbw1.trans (hb2.mono hbw1.size)); obtain ⟨hk9, ad, rfl, hab, hc0, hc1, hc2, hc3, hss, hnm⟩ := (hS.below (hbw2.mono hB)).at_ hkn) | (go_at_call 79; refine (i_copied _ _ B _ _ _ _ _ hss (by have := hbw2.size; omega)).mono ?_; rintro e w3 ⟨A3, c3, rfl, ho3, hb3⟩; obtain ⟨hcb3, hfb3⟩ := bcell hb3; (have hz3 : w.heap.size < w3.heap.size := (by have := hb3.size; omega)); (have hbw3 : Below w.heap.size w w3 := hbw2.trans (hb3.mono hbw2.size))))
      refine bodyPost_ret (v := .tuple #[.agg #[.int .i64 L[k].x.d, .int .i64 L[k].x.f, .slice A3 L[k].x.ss.length c3], .bool true]) (by simp [results, Tryz.results102, go_sem, *]) rfl ?_
      refine ucardB_cast HR.out ⟨A3, c3, rfl, OwnS.of (own_up ho3 upr hbw2.size) (by simp), bel⟩
end Go.Proofs.YtdddglihomchfaaGreat
namespace Go.Proofs.YtdddglihomchfaaGreat
open Go.ChangeShapes Go.WideShapes Go.ChangeAt Go.RowKit
set_option linter.unusedVariables false
set_option maxRecDepth 10000
theorem named_zero {P : List PItem} {name : ByteArray} (h : noNm P name P.length) : named P name = ((0, 0), ([], false)) := by
  cases hc : catOk P
  · exact named_no1 hc
  · exact named_no2 (idxNm_none h)
set_option maxHeartbeats 3200000 in
theorem s_CardNamed (name : ByteArray) (P : List PItem) (B : Nat) (A : Option Addr) (n c : Nat) (L : List RItem) (w : World) (hp : plI L = P) (hS : Items w B A n L) (hB : B ≤ w.heap.size) :
    Calls Tryz.prog 100 #[.slice A n c, .string name] w (UCardB (named P name).1.1 (named P name).1.2 (named P name).2.1 (named P name).2.2 w) := by
  have hn := hS.nb
  have hl : P.length = n := by rw [← hp, plI_len, hS.len]
  have hco := fun (W : World) (hW : Below w.heap.size w W) => s_CatalogOk P B A n c L W hp (hS.below (hW.mono hB)) (Nat.le_trans hB hW.size)
  have HCO := hide hco
  have HL := Lib.hid hl
  have HP := Lib.hid hp
  clear hl hp hco
  have hk0 := blk_new w (.cells #[.int .i64 0, .int .i64 0, .slice none 0 0] 34)
  go_enter Tryz.func100, Tryz.ntmps100
  go_wp2
  go_loopw [6] (fun i wr => ∃ j : Nat, j ≤ n ∧ i = .int .i64 j ∧ Hid (noNm P name j) ∧ Below (w.heap.size + 1) (w.alloc (.cells #[.int .i64 0, .int .i64 0, .slice none 0 0] 34)) wr) (fun i _ => n - (intOf i).toNat)
  case atStart => exact ⟨0, Nat.zero_le _, rfl, noNm_zero _ _, Below.refl _ _⟩
  case round =>
    obtain ⟨j, hj, rfl, HN, hb⟩ := hrel
    have hkr := blk_below hk0 hb (by omega)
    have hzr : w.heap.size < wr.heap.size := blk_lt hkr
    have hbw : Below w.heap.size w wr := ((Below.refl _ _).alloc (Nat.le_refl _) _).trans (hb.mono (by omega))
    obtain ⟨hx0, hx1, hx2, hxl⟩ := blk3 hkr
    have hz0 := (blk_cells hkr 0).2
    have hz1 := (blk_cells hkr 1).2
    have hz2 := (blk_cells hkr 2).2
    by_cases hlt : j < n
    · obtain ⟨hk1, ad, rfl, hab, hc0, hc1, hc2, hc3, hss, hnm⟩ := (hS.below (hbw.mono hB)).at_ hlt
      have HX := Lib.hid (show P[j]? = some L[j].x by rw [← HP.out]; exact plI_at hk1)
      have hq1 : (ad.add (j * 4)).block < wr.heap.size := by rw [block_of_add]; omega
      cases hck : catOk P
      · have HR := Lib.hid (named_no1 (name := name) hck)
        have hco := unhide HCO wr hbw
        rw [hck] at hco
        have HC := hide hco
        clear hco hck
        go_wp2_with (first | (go_at_call 63; refine (unhide HC).mono ?_; rintro e w1 ⟨rfl, hb1⟩; obtain ⟨hcb1, hfb1⟩ := bcell hb1; (have hz9 : w.heap.size < w1.heap.size := (by have := hb1.size; omega)); (have hbw1 : Below w.heap.size w w1 := hbw.trans (hb1.mono (by omega)))))
        refine bodyPost_ret (v := .tuple #[.agg #[.int .i64 0, .int .i64 0, .slice none 0 0], .bool false]) (by simp [results, Tryz.results100, go_sem, *]) rfl ?_
        exact ucardB_cast HR.out (zeroCard _ _ bel)
      · by_cases hq : L[j].x.nm = name
        · have HR := Lib.hid (named_yes hck (idxNm_some HN.out HX.out hq) HX.out)
          have hbq := beq_toList_true hq
          have hco := unhide HCO wr hbw
          rw [hck] at hco
          have HC := hide hco
          clear hco hck hq
          go_wp2_with (first | (go_at_call 63; refine (unhide HC).mono ?_; rintro e w1 ⟨rfl, hb1⟩; obtain ⟨hcb1, hfb1⟩ := bcell hb1; (have hz9 : w.heap.size < w1.heap.size := (by have := hb1.size; omega)); (have hbw1 : Below w.heap.size w w1 := hbw.trans (hb1.mono (by omega))); (have hcc1 : ∀ q : Addr, q.block < wr.heap.size → w1.cell? q = wr.cell? q := fun q hq => hb1.cell hq); (have hss1 := (hss.more (B' := wr.heap.size) (by omega)).below hb1)) | (go_at_call 77; refine (s_l05Copy _ _ wr.heap.size _ _ _ _ _ hss1 hb1.size).mono ?_; rintro e w3 ⟨A3, c3, rfl, ho3, hb3⟩; obtain ⟨hcb3, hfb3⟩ := bcell hb3; (have hz3 : w.heap.size < w3.heap.size := (by have := hb3.size; omega)); (have hbw3 : Below w.heap.size w w3 := hbw1.trans (hb3.mono hbw1.size))))
          refine bodyPost_ret (v := .tuple #[.agg #[.int .i64 L[j].x.d, .int .i64 L[j].x.f, .slice A3 L[j].x.ss.length c3], .bool true]) (by simp [results, Tryz.results100, go_sem, *]) rfl ?_
          refine ucardB_cast HR.out ⟨A3, c3, rfl, OwnS.of (own_up ho3 upr hbw1.size) (by simp), bel⟩
        · have HS := Lib.hid (noNm_succ HN.out HX.out hq)
          have hbq := beq_toList_false hq
          have hco := unhide HCO wr hbw
          rw [hck] at hco
          have HC := hide hco
          clear hco hck hq
          go_wp2_with (first | (go_at_call 63; refine (unhide HC).mono ?_; rintro e w1 ⟨rfl, hb1⟩; obtain ⟨hcb1, hfb1⟩ := bcell hb1; (have hz9 : w.heap.size < w1.heap.size := (by have := hb1.size; omega)); (have hcc1 : ∀ q : Addr, q.block < wr.heap.size → w1.cell? q = wr.cell? q := fun q hq => hb1.cell hq)))
          go_roundw
          case rel => exact ⟨j + 1, by omega, by go_num, HS.out, hb.trans (hb1.mono (by omega))⟩
          case measure => simp [intOf]; omega
    · have hjn : j = n := by omega
      have HR := Lib.hid (named_zero (P := P) (name := name) (by rw [HL.out, ← hjn]; exact HN.out))
      clear hjn
      go_wp2
      refine bodyPost_ret (v := .tuple #[.agg #[.int .i64 0, .int .i64 0, .slice none 0 0], .bool false]) (by simp [results, Tryz.results100, go_sem, *]) rfl ?_
      exact ucardB_cast HR.out (zeroCard _ _ bel)
end Go.Proofs.YtdddglihomchfaaGreat
namespace Go.Proofs.YtdddglihomchfaaGreat
open Go.ChangeShapes Go.WideShapes Go.ChangeAt Go.RowKit
set_option linter.unusedVariables false
set_option maxRecDepth 10000
def dropped (P : List PItem) (name : ByteArray) : List PItem × Bool :=
  if catOk P = true then match idxNm P name with | some k => (P.take k ++ P.drop (k + 1), true) | none => (P, false) else (P, false)
def UItemsB (P : List PItem) (b : Bool) (w : World) (e : Ending) (w' : World) : Prop :=
  ∃ A c L, e = .returned (.tuple #[.slice A P.length c, .bool b]) ∧ plI L = P ∧ OwnItems w' w.heap.size w'.heap.size A P.length c L ∧ Below w.heap.size w w'
end Go.Proofs.YtdddglihomchfaaGreat
namespace Go.Proofs.YtdddglihomchfaaGreat
open Go.ChangeShapes Go.WideShapes Go.ChangeAt Go.RowKit
set_option linter.unusedVariables false
set_option maxRecDepth 10000
def nmLt (a b : ByteArray) : Bool := Op.bytesLess a.toList b.toList
def posOf : List PItem → ByteArray → Nat
  | [], _ => 0
  | x :: l, nm => if nmLt x.nm nm = true then posOf l nm + 1 else 0
def allLt (P : List PItem) (nm : ByteArray) (j : Nat) : Prop := ∀ i, i < j → ∀ x, P[i]? = some x → nmLt x.nm nm = true
def insP (P : List PItem) (x : PItem) (j : Nat) : List PItem := P.take j ++ x :: P.drop j
def added (P : List PItem) (x : PItem) : List PItem × Bool :=
  if catOk P = true then if catOk (insP P x (posOf P x.nm)) = true then (insP P x (posOf P x.nm), true) else (P, false) else (P, false)
end Go.Proofs.YtdddglihomchfaaGreat
namespace Go.Proofs.YtdddglihomchfaaGreat
open Go.ChangeShapes Go.WideShapes Go.ChangeAt Go.RowKit
set_option linter.unusedVariables false
set_option linter.unusedSimpArgs false
set_option maxRecDepth 10000
theorem uwb_cast {W : PWork} {b : Bool} {q : PWork × Bool} {w w' : World} {e : Ending} (h : q = (W, b)) (hu : UWorkB W.D.d1 W.D.f1 W.D.ss1 W.D.d2 W.D.f2 W.D.ss2 W.D.st W.P W.pp W.m b w e w') : UWorkB q.1.D.d1 q.1.D.f1 q.1.D.ss1 q.1.D.d2 q.1.D.f2 q.1.D.ss2 q.1.D.st q.1.P q.1.pp q.1.m q.2 w e w' := by subst h; exact hu
def shapeRes (W : PWork) (s : PStep) : PWork × Bool := if workOk W = true ∧ 1 ≤ W.m ∧ (doRes W.D s).2 = true then (⟨(doRes W.D s).1, W.P, W.pp, W.m - 1⟩, true) else (W, false)
def unshapeRes (W : PWork) : PWork × Bool := if workOk W = true ∧ (undoRes W.D).2 = true then (⟨(undoRes W.D).1, W.P, W.pp, W.m⟩, true) else (W, false)
def forgetRes (W : PWork) (nm : ByteArray) : PWork × Bool := if workOk W = true ∧ (dropped W.P nm).2 = true then (⟨W.D, (dropped W.P nm).1, W.pp, W.m⟩, true) else (W, false)
def keepRes (W : PWork) (nm : ByteArray) : PWork × Bool := if workOk W = true ∧ (added W.P ⟨nm, W.D.d2, W.D.f2, W.D.ss2⟩).2 = true then (⟨W.D, (added W.P ⟨nm, W.D.d2, W.D.f2, W.D.ss2⟩).1, W.pp, W.m⟩, true) else (W, false)
theorem workOk_m {W : PWork} (h : workOk W = true) : 0 ≤ W.m ∧ W.m ≤ 1000000 := (workOk_iff.1 h).2.2.2.2
end Go.Proofs.YtdddglihomchfaaGreat
namespace Go.Proofs.YtdddglihomchfaaGreat
open Go.ChangeShapes Go.WideShapes Go.ChangeAt Go.RowKit
set_option linter.unusedVariables false
set_option linter.unusedSimpArgs false
set_option maxRecDepth 10000
def zPap : PPaper := ⟨0, 0, 0⟩
def pAt (pp : List PPaper) (j : Nat) : PPaper := pp.getD j zPap
theorem pAt_get (pp : List PPaper) (j : Nat) (h : j < pp.length) : pAt pp j = pp[j] := by unfold pAt; simp [List.getD, h]
def sumK (pp : List PPaper) (K : Int) : Nat → Int
  | 0 => 0
  | j + 1 => if (pAt pp j).k = K then sumK pp K j + (pAt pp j).s else sumK pp K j
theorem sumK_yes {pp : List PPaper} {K : Int} {j : Nat} (h : j < pp.length) (hk : pp[j].k = K) : sumK pp K (j + 1) = sumK pp K j + pp[j].s := by
  show (if (pAt pp j).k = K then _ else _) = _
  rw [pAt_get pp j h, if_pos hk]
theorem sumK_no {pp : List PPaper} {K : Int} {j : Nat} (h : j < pp.length) (hk : ¬ pp[j].k = K) : sumK pp K (j + 1) = sumK pp K j := by
  show (if (pAt pp j).k = K then _ else _) = _
  rw [pAt_get pp j h, if_neg hk]
theorem papOk_at {pp : List PPaper} (h : papOk pp = true) {p : PPaper} (hp : p ∈ pp) : (0 ≤ p.k ∧ p.k ≤ 9) ∧ (40 ≤ p.g ∧ p.g ≤ 400) ∧ 0 ≤ p.s ∧ p.s ≤ 100000 := by
  unfold papOk at h
  rw [List.all_eq_true] at h
  have := h p hp
  unfold paperOk at this
  simp only [Bool.and_eq_true, inB_iff'] at this
  exact ⟨this.1, this.2.1, this.2.2⟩
theorem sumK_bd {pp : List PPaper} (h : papOk pp = true) (K : Int) : ∀ j, j ≤ pp.length → 0 ≤ sumK pp K j ∧ sumK pp K j ≤ 100000 * (j : Int)
  | 0, _ => by show (0 : Int) ≤ 0 ∧ (0 : Int) ≤ _; omega
  | j + 1, hj => by
    have h1 := sumK_bd h K j (by omega)
    have h2 := papOk_at h (List.getElem_mem (show j < pp.length by omega))
    by_cases hk : pp[j].k = K
    · rw [sumK_yes (by omega) hk]; omega
    · rw [sumK_no (by omega) hk]; omega
def sheetsL (pp : List PPaper) (K : Int) : Int := if papOk pp = true then sumK pp K pp.length else 0
theorem sheetsL_no {pp : List PPaper} {K : Int} (h : papOk pp = false) : sheetsL pp K = 0 := by unfold sheetsL; rw [h]; rfl
theorem sheetsL_yes {pp : List PPaper} {K : Int} (h : papOk pp = true) : sheetsL pp K = sumK pp K pp.length := by unfold sheetsL; rw [if_pos h]
set_option maxHeartbeats 1600000 in
theorem i_SheetsLeft (pp : List PPaper) (K : Int) (B : Nat) (A : Option Addr) (n c : Nat) (w : World) (hS : Papers w B A n pp) (hB : B ≤ w.heap.size) :
    Calls Tryz.prog 152 #[.slice A n c, .int .i64 K] w fun e w' => e = .returned (.int .i64 (sheetsL pp K)) ∧ Below w.heap.size w w' := by
  have hn := hS.nb
  have hl := hS.len
  have hap := i_arePapers pp B A n c w hS hB
  cases hp : papOk pp
  · rw [hp] at hap
    have HAP := hide hap
    have HR := Lib.hid (sheetsL_no (K := K) hp)
    clear hap hp hl
    go_enter Tryz.func152, Tryz.ntmps152
    go_wp2_with (go_at_call 71; refine (unhide HAP).mono ?_; rintro e w1 ⟨rfl, hb1⟩)
    go_ret
    exact ⟨ret_int HR.out.symm, hb1⟩
  · have HP := Lib.hid hp
    have hbd := fun j (h : j ≤ n) => sumK_bd hp K j (by omega)
    rw [hp] at hap
    have HAP := hide hap
    have HR := Lib.hid (sheetsL_yes (K := K) hp)
    have HL := Lib.hid hl
    have HBD := hide hbd
    clear hap hp hl hbd
    go_enter Tryz.func152, Tryz.ntmps152
    go_wp2_with (go_at_call 71; refine (unhide HAP).mono ?_; rintro e w1 ⟨rfl, hb1⟩)
    go_loopw [5, 13] (fun q i wr => ∃ (j : Nat) (x : Int), j ≤ n ∧ i = .int .i64 j ∧ q = .int .i64 x ∧ Hid (x = sumK pp K j) ∧ Below w.heap.size w wr) (fun _ i _ => n - (intOf i).toNat)
    case atStart => exact ⟨0, 0, Nat.zero_le _, rfl, rfl, rfl, hb1⟩
    case round =>
      obtain ⟨j, x, hj, rfl, rfl, HX, hb⟩ := hrel
      have hzr := hb.size
      have hx := (unhide HBD) j hj
      rw [← HX.out] at hx
      by_cases hlt : j < n
      · obtain ⟨hk1, ad, rfl, hab, hc0, hc1, hc2⟩ := (hS.below (hb.mono hB)).at_ hlt
        have hpb := papOk_at HP.out (List.getElem_mem hk1)
        have hwx : IntKind.i64.wrap (x + pp[j].s) = x + pp[j].s := by rw [IntKind.wrap_i64]; omega
        by_cases hk : pp[j].k = K
        · have HS := Lib.hid (sumK_yes hk1 hk)
          go_wp2
          go_roundw
          case rel => exact ⟨j + 1, x + pp[j].s, by omega, by go_num, rfl, by unfold Hid; rw [HS.out, HX.out], bel⟩
          case measure => simp [intOf]; omega
        · have HS := Lib.hid (sumK_no hk1 hk)
          go_wp2
          go_roundw
          case rel => exact ⟨j + 1, x, by omega, by go_num, rfl, by unfold Hid; rw [HS.out, HX.out], bel⟩
          case measure => simp [intOf]; omega
      · have hjn : j = n := by omega
        have HF : Hid (x = sheetsL pp K) := by unfold Hid; rw [HR.out, HX.out, HL.out, hjn]
        clear hjn
        go_wp2
        go_ret
        exact ⟨ret_int HF.out, hb⟩
set_option maxHeartbeats 1600000 in
theorem s_SheetsLeft (pp : List PPaper) (K : Int) (B : Nat) (A : Option Addr) (n c : Nat) (w : World) (hS : Papers w B A n pp) (hB : B ≤ w.heap.size) :
    Calls Tryz.prog 151 #[.slice A n c, .int .i64 K] w fun e w' => e = .returned (.int .i64 (sheetsL pp K)) ∧ Below w.heap.size w w' := by
  have hn := hS.nb
  have hl := hS.len
  have hap := fun (W : World) (hW : Below w.heap.size w W) => s_l23Ok pp B A n c W (hS.below (hW.mono hB)) (Nat.le_trans hB hW.size)
  cases hp : papOk pp
  · simp only [hp] at hap
    have HAP := hide hap
    have HR := Lib.hid (sheetsL_no (K := K) hp)
    clear hap hp
    by_cases hn0 : 0 < n
    · go_enter Tryz.func151, Tryz.ntmps151
      go_wp2
      go_loopw [5, 6] (fun q i wr => i = .int .i64 0 ∧ q = .int .i64 0 ∧ Below w.heap.size w wr) (fun _ i _ => 0)
      case atStart => exact ⟨rfl, rfl, Below.refl _ _⟩
      case round =>
        obtain ⟨rfl, rfl, hb⟩ := hrel
        go_wp2_with (go_at_call 64; refine (unhide HAP _ hb).mono ?_; rintro e w1 ⟨rfl, hb1⟩)
        go_ret
        exact ⟨ret_int HR.out.symm, hb.trans (hb1.mono hb.size)⟩
    · have hn1 : n = 0 := by omega
      subst hn1
      go_enter Tryz.func151, Tryz.ntmps151
      go_wp2
      go_loopw [5, 6] (fun q i wr => i = .int .i64 0 ∧ q = .int .i64 0 ∧ Below w.heap.size w wr) (fun _ i _ => 0)
      case atStart => exact ⟨rfl, rfl, Below.refl _ _⟩
      case round =>
        obtain ⟨rfl, rfl, hb⟩ := hrel
        go_wp2
        go_ret
        exact ⟨ret_int HR.out.symm, hb⟩
  · have HP := Lib.hid hp
    have hbd := fun j (h : j ≤ n) => sumK_bd hp K j (by omega)
    simp only [hp] at hap
    have HAP := hide hap
    have HR := Lib.hid (sheetsL_yes (K := K) hp)
    have HL := Lib.hid hl
    have HBD := hide hbd
    clear hap hp hl hbd
    go_enter Tryz.func151, Tryz.ntmps151
    go_wp2
    go_loopw [5, 6] (fun q i wr => ∃ (j : Nat) (x : Int), j ≤ n ∧ i = .int .i64 j ∧ q = .int .i64 x ∧ Hid (x = sumK pp K j) ∧ Below w.heap.size w wr) (fun _ i _ => n - (intOf i).toNat)
    case atStart => exact ⟨0, 0, Nat.zero_le _, rfl, rfl, rfl, Below.refl _ _⟩
    case round =>
      obtain ⟨j, x, hj, rfl, rfl, HX, hb⟩ := hrel
      have hzr := hb.size
      have hx := (unhide HBD) j hj
      rw [← HX.out] at hx
      by_cases hlt : j < n
      · go_wp2_with fail
        refine (unhide HAP _ hb).mono ?_
        rintro e w1 ⟨rfl, hb1⟩
        have hbw1 : Below w.heap.size w w1 := hb.trans (hb1.mono hb.size)
        obtain ⟨hk1, ad, rfl, hab, hc0, hc1, hc2⟩ := (hS.below (hbw1.mono hB)).at_ hlt
        have hpb := papOk_at HP.out (List.getElem_mem hk1)
        have hwx : IntKind.i64.wrap (x + pp[j].s) = x + pp[j].s := by rw [IntKind.wrap_i64]; omega
        by_cases hk : pp[j].k = K
        · have HS := Lib.hid (sumK_yes hk1 hk)
          go_wp2
          go_roundw
          case rel => exact ⟨j + 1, x + pp[j].s, by omega, by go_num, rfl, by unfold Hid; rw [HS.out, HX.out], hbw1⟩
          case measure => simp [intOf]; omega
        · have HS := Lib.hid (sumK_no hk1 hk)
          go_wp2
          go_roundw
          case rel => exact ⟨j + 1, x, by omega, by go_num, rfl, by unfold Hid; rw [HS.out, HX.out], hbw1⟩
          case measure => simp [intOf]; omega
      · have hjn : j = n := by omega
        have HF : Hid (x = sheetsL pp K) := by unfold Hid; rw [HR.out, HX.out, HL.out, hjn]
        clear hjn
        go_wp2
        go_ret
        exact ⟨ret_int HF.out, hb⟩
end Go.Proofs.YtdddglihomchfaaGreat
namespace Go.Proofs.YtdddglihomchfaaGreat
open Go.ChangeShapes Go.WideShapes Go.ChangeAt Go.RowKit
set_option linter.unusedVariables false
set_option linter.unusedSimpArgs false
set_option maxRecDepth 10000
def useN (pp : List PPaper) (K x : Int) : Nat → List PPaper × Int
  | 0 => (pp, x)
  | j + 1 => if (pAt pp j).k = K then ((useN pp K x j).1.set j ⟨(pAt pp j).k, (pAt pp j).g, (pAt pp j).s - min (pAt pp j).s (useN pp K x j).2⟩, (useN pp K x j).2 - min (pAt pp j).s (useN pp K x j).2) else useN pp K x j
theorem useN_yes {pp : List PPaper} {K x : Int} {j : Nat} (h : j < pp.length) (hk : pp[j].k = K) : useN pp K x (j + 1) = ((useN pp K x j).1.set j ⟨pp[j].k, pp[j].g, pp[j].s - min pp[j].s (useN pp K x j).2⟩, (useN pp K x j).2 - min pp[j].s (useN pp K x j).2) := by
  show (if (pAt pp j).k = K then _ else _) = _
  rw [pAt_get pp j h, if_pos hk]
theorem useN_no {pp : List PPaper} {K x : Int} {j : Nat} (h : j < pp.length) (hk : ¬ pp[j].k = K) : useN pp K x (j + 1) = useN pp K x j := by
  show (if (pAt pp j).k = K then _ else _) = _
  rw [pAt_get pp j h, if_neg hk]
theorem useN_len (pp : List PPaper) (K x : Int) : ∀ j, (useN pp K x j).1.length = pp.length
  | 0 => rfl
  | j + 1 => by
    show (if (pAt pp j).k = K then _ else _ : List PPaper × Int).1.length = _
    split
    · simp [useN_len pp K x j]
    · exact useN_len pp K x j
theorem useN_get (pp : List PPaper) (K x : Int) : ∀ j i, j ≤ i → (useN pp K x j).1[i]? = pp[i]?
  | 0, _, _ => rfl
  | j + 1, i, h => by
    show (if (pAt pp j).k = K then _ else _ : List PPaper × Int).1[i]? = _
    split
    · simp only [List.getElem?_set_ne (show j ≠ i by omega)]
      exact useN_get pp K x j i (by omega)
    · exact useN_get pp K x j i (by omega)
theorem useN_bd {pp : List PPaper} (hp : papOk pp = true) (K : Int) {x : Int} (hx : 0 ≤ x) : ∀ j, j ≤ pp.length → 0 ≤ (useN pp K x j).2 ∧ (useN pp K x j).2 ≤ x
  | 0, _ => by show 0 ≤ x ∧ x ≤ x; omega
  | j + 1, h => by
    have h1 := useN_bd hp K hx j (by omega)
    have h2 := papOk_at hp (List.getElem_mem (show j < pp.length by omega))
    by_cases hk : pp[j].k = K
    · rw [useN_yes (by omega) hk]; simp only; omega
    · rw [useN_no (by omega) hk]; exact h1
theorem useN_ok {pp : List PPaper} (hp : papOk pp = true) (K : Int) {x : Int} (hx : 0 ≤ x) : ∀ j, j ≤ pp.length → papOk (useN pp K x j).1 = true
  | 0, _ => hp
  | j + 1, h => by
    have h0 := useN_ok hp K hx j (by omega)
    have h1 := useN_bd hp K hx j (by omega)
    have h2 := papOk_at hp (List.getElem_mem (show j < pp.length by omega))
    by_cases hk : pp[j].k = K
    · rw [useN_yes (by omega) hk]
      unfold papOk at h0 ⊢
      rw [List.all_eq_true] at h0 ⊢
      intro p hpm
      rcases List.mem_or_eq_of_mem_set hpm with hm | rfl
      · exact h0 p hm
      · unfold paperOk
        simp only [Bool.and_eq_true, inB_iff']
        refine ⟨h2.1, h2.2.1, ?_⟩
        omega
    · rw [useN_no (by omega) hk]; exact h0
def useRes (pp : List PPaper) (K x : Int) : List PPaper × Bool :=
  if pp.length ≤ 20 ∧ papOk pp = true ∧ 0 ≤ x ∧ x ≤ sheetsL pp K then ((useN pp K x pp.length).1, true) else (pp, false)
theorem useRes_no {pp : List PPaper} {K x : Int} (h : ¬ (pp.length ≤ 20 ∧ papOk pp = true ∧ 0 ≤ x ∧ x ≤ sheetsL pp K)) : useRes pp K x = (pp, false) := if_neg h
theorem useRes_yes {pp : List PPaper} {K x : Int} (h1 : pp.length ≤ 20) (h2 : papOk pp = true) (h3 : 0 ≤ x) (h4 : x ≤ sheetsL pp K) : useRes pp K x = ((useN pp K x pp.length).1, true) := if_pos ⟨h1, h2, h3, h4⟩
theorem useRes_len (pp : List PPaper) (K x : Int) : (useRes pp K x).1.length = pp.length := by
  unfold useRes
  split
  · exact useN_len _ _ _ _
  · rfl
theorem useRes_pap {pp : List PPaper} {K x : Int} (h : (useRes pp K x).2 = true) : papOk (useRes pp K x).1 = true ∧ pp.length ≤ 20 := by
  unfold useRes at *
  split at h
  · rename_i hc
    rw [if_pos hc]
    exact ⟨useN_ok hc.2.1 _ hc.2.2.1 _ (Nat.le_refl _), hc.1⟩
  · cases h
theorem set_sheets (l : List PPaper) (j : Nat) (h : j < l.length) (v : Int) : (l.flatMap paperCells).set (j * 3 + 2) (.int .i64 v) = (l.set j ⟨l[j].k, l[j].g, v⟩).flatMap paperCells := by
  have h1 : l = l.take j ++ l[j] :: l.drop (j + 1) := by rw [← List.drop_eq_getElem_cons h, List.take_append_drop]
  have h2 : l.set j ⟨l[j].k, l[j].g, v⟩ = l.take j ++ (⟨l[j].k, l[j].g, v⟩ : PPaper) :: l.drop (j + 1) := by rw [List.set_eq_take_append_cons_drop, if_pos h]
  rw [h2]
  conv => lhs; rw [h1]
  simp only [List.flatMap_append, List.flatMap_cons]
  have hlen : ((l.take j).flatMap paperCells).length = j * 3 := by rw [flat_len paperCells_len, List.length_take, Nat.min_eq_left (by omega)]
  rw [List.set_append_right _ _ (by omega), hlen]
  simp [paperCells]
def UPapB (pp : List PPaper) (b : Bool) (w : World) (e : Ending) (w' : World) : Prop :=
  ∃ A c, e = .returned (.tuple #[.slice A pp.length c, .bool b]) ∧ OwnP w' w.heap.size w'.heap.size A c pp ∧ Below w.heap.size w w'
theorem upap_cast {pp : List PPaper} {b : Bool} {q : List PPaper × Bool} {w w' : World} {e : Ending} (h : q = (pp, b)) (hu : UPapB pp b w e w') : UPapB q.1 q.2 w e w' := by subst h; exact hu
set_option maxHeartbeats 1600000 in
theorem i_UsePaper (pp : List PPaper) (K x : Int) (B : Nat) (A : Option Addr) (c : Nat) (w : World) (hS : Papers w B A pp.length pp) (hB : B ≤ w.heap.size) :
    Calls Tryz.prog 103 #[.slice A pp.length c, .int .i64 K, .int .i64 x] w (UPapB (useRes pp K x).1 (useRes pp K x).2 w) := by
  obtain ⟨n, hnn⟩ : ∃ n, n = pp.length := ⟨_, rfl⟩
  have hcl := clone_paper B A pp.length c pp w hS hB
  have hap := fun (W : World) (hW : Below w.heap.size w W) => i_arePapers pp B A pp.length c W (hS.below (hW.mono hB)) (Nat.le_trans hB hW.size)
  have hsl := fun (W : World) (hW : Below w.heap.size w W) => i_SheetsLeft pp K B A pp.length c W (hS.below (hW.mono hB)) (Nat.le_trans hB hW.size)
  have hn := hS.nb
  have hno := fun h => useRes_no (pp := pp) (K := K) (x := x) h
  have hyes := fun h1 h2 h3 h4 => useRes_yes (pp := pp) (K := K) (x := x) h1 h2 h3 h4
  have HCL := hide hcl
  have HAP := hide hap
  have HSL := hide hsl
  have HNO := hide hno
  have HYES := hide hyes
  have HNN := Lib.hid hnn
  clear hcl hap hsl hno hyes hS
  by_cases h1 : pp.length ≤ 20
  · cases h2 : papOk pp
    · have HR := Lib.hid ((unhide HNO) (by rw [h2]; simp))
      have H2 := Lib.hid h2
      clear h2
      go_enter Tryz.func103, Tryz.ntmps103
      go_wp2_with (first | (go_at_call 146; refine (unhide HCL).mono ?_; rintro e w1 ⟨A1, c1, rfl, ho1, hb1⟩) | (go_at_call 71; refine (unhide HAP _ hb1).mono ?_; rw [H2.out]; rintro e w2 ⟨rfl, hb2⟩))
      refine bodyPost_ret (v := .tuple #[.slice A1 pp.length c1, .bool false]) (by simp [results, Tryz.results103, go_sem, *]) rfl ?_
      exact upap_cast HR.out ⟨A1, c1, rfl, OwnP.of (own_below ho1 hb2) (by first | exact Nat.le_refl _ | exact hb2.size), hb1.trans (hb2.mono hb1.size)⟩
    · by_cases h3 : 0 ≤ x
      · by_cases h4 : x ≤ sheetsL pp K
        · have HR := Lib.hid ((unhide HYES) h1 h2 h3 h4)
          have hbd := fun j (hj : j ≤ n) => useN_bd h2 K h3 j (by omega)
          have hlen := fun j => useN_len pp K x j
          have hget := fun j => useN_get pp K x j j (Nat.le_refl _)
          have hpo := fun (p : PPaper) (hp : p ∈ pp) => papOk_at h2 hp
          have hxb : x ≤ 1677721600000 := by have h8 := sumK_bd h2 K pp.length (Nat.le_refl _); rw [sheetsL_yes h2] at h4; omega
          have H2 := Lib.hid h2
          have HBD := hide hbd
          have HLEN := hide hlen
          have HGET := hide hget
          have HPO := hide hpo
          clear h2 hbd hlen hget hpo
          generalize sheetsL pp K = sl at *
          have h4' : ¬ sl < x := by omega
          go_enter Tryz.func103, Tryz.ntmps103
          go_wp2_with (first | (go_at_call 146; refine (unhide HCL).mono ?_; rintro e w1 ⟨A1, c1, rfl, ho1, hb1⟩) | (go_at_call 71; refine (unhide HAP _ hb1).mono ?_; rw [H2.out]; rintro e w2 ⟨rfl, hb2⟩) | (go_at_call 152; refine (unhide HSL _ (hb1.trans (hb2.mono hb1.size))).mono ?_; rintro e w3 ⟨rfl, hb3⟩))
          have hb123 : Below w.heap.size w w3 := hb1.trans ((hb2.mono hb1.size).trans (hb3.mono (Nat.le_trans hb1.size hb2.size)))
          have ho3 := own_below (own_below ho1 hb2) hb3
          clear hb1 hb2 hb3 ho1
          go_loopw [2, 36] (fun q i wr => ∃ (j : Nat) (y : Int) (l : List PPaper), j ≤ n ∧ i = .int .i64 j ∧ q = .int .i64 y ∧ Hid (useN pp K x j = (l, y)) ∧ wr.ownsRow w.heap.size 118 3 (.slice A1 pp.length c1) pp.length (l.flatMap paperCells) ∧ Below w.heap.size w wr) (fun _ i _ => n - (intOf i).toNat)
          case atStart => exact ⟨0, x, pp, Nat.zero_le _, rfl, rfl, rfl, ho3, hb123⟩
          case round =>
            obtain ⟨j, y, l, hj, rfl, rfl, HU, hown, hb⟩ := hrel
            have hzr := hb.size
            have hyb := (unhide HBD) j hj
            rw [HU.out] at hyb
            simp only at hyb
            by_cases hlt : j < n
            · have hjp : j < pp.length := by rw [← HNN.out]; exact hlt
              have hll : l.length = pp.length := by have := (unhide HLEN) j; rw [HU.out] at this; exact this
              have hjl : j < l.length := by omega
              have hlj : l[j] = pp[j] := by
                have := (unhide HGET) j
                rw [HU.out] at this
                simp only at this
                rw [List.getElem?_eq_getElem hjl, List.getElem?_eq_getElem hjp] at this
                injection this
              obtain ⟨g, cap, hv, hbg, hglt⟩ := hown.form (by omega)
              have hA : A1 = some ⟨g, 0, none⟩ := by injection hv
              subst hA
              clear hv
              have hcc := fun i hi => flat_get paperCells_len l j i hjl hi
              have hc0 : wr.cell? ⟨g, j * 3, none⟩ = some (.int .i64 pp[j].k) := by have := hown.cellAt (j * 3) (by omega); rw [this, ← hlj]; exact hcc 0 (by omega)
              have hc1 : wr.cell? ⟨g, j * 3 + 1, none⟩ = some (.int .i64 pp[j].g) := by have := hown.cellAt (j * 3 + 1) (by omega); rw [this, ← hlj]; exact hcc 1 (by omega)
              have hc2 : wr.cell? ⟨g, j * 3 + 2, none⟩ = some (.int .i64 pp[j].s) := by have := hown.cellAt (j * 3 + 2) (by omega); rw [this, ← hlj]; exact hcc 2 (by omega)
              have hf2 := hown.frozenAt (j * 3 + 2)
              have hpb := (unhide HPO) _ (List.getElem_mem hjp)
              have hw1 : IntKind.i64.wrap (pp[j].s - min pp[j].s y) = pp[j].s - min pp[j].s y := by rw [IntKind.wrap_i64]; omega
              have hw2 : IntKind.i64.wrap (y - min pp[j].s y) = y - min pp[j].s y := by rw [IntKind.wrap_i64]; omega
              have HSET := hide (set_sheets l j hjl (pp[j].s - min pp[j].s y))
              have HLJ := Lib.hid hlj
              clear hcc hll hlj
              by_cases hk : pp[j].k = K
              · have HS := Lib.hid (useN_yes (x := x) hjp hk)
                go_wp2
                go_roundw
                case rel =>
                  have hst := hown.stored (j * 3 + 2) (.int .i64 (pp[j].s - min pp[j].s y))
                  refine ⟨j + 1, y - min pp[j].s y, l.set j ⟨pp[j].k, pp[j].g, pp[j].s - min pp[j].s y⟩, by omega, by go_num, rfl, ?_, ?_, ?_⟩
                  · unfold Hid; rw [HS.out, HU.out]
                  · have h9 := hst.1
                    rw [unhide HSET, HLJ.out] at h9
                    exact h9.alloc _
                  · exact (hb.setCell (p := ⟨g, j * 3 + 2, none⟩) hbg _).alloc (by simp [World.setCell]; omega) _
                case measure => simp [intOf]; omega
              · have HS := Lib.hid (useN_no (x := x) hjp hk)
                go_wp2
                go_roundw
                case rel => exact ⟨j + 1, y, l, by omega, by go_num, rfl, by unfold Hid; rw [HS.out]; exact HU.out, hown.alloc _, hb.alloc (by omega) _⟩
                case measure => simp [intOf]; omega
            · have hjn : j = pp.length := by have := HNN.out; omega
              have HF : Hid (useRes pp K x = (l, true)) := by unfold Hid; rw [HR.out, ← hjn, HU.out]
              have hll : l.length = pp.length := by have := (unhide HLEN) j; rw [HU.out] at this; exact this
              clear hjn
              go_wp2
              refine bodyPost_ret (v := .tuple #[.slice A1 pp.length c1, .bool true]) (by simp [results, Tryz.results103, go_sem, *]) rfl ?_
              rw [← hll] at hown ⊢
              exact upap_cast HF.out ⟨A1, c1, rfl, OwnP.of hown (Nat.le_refl _), hb⟩
        · have HR := Lib.hid ((unhide HNO) (fun h => h4 h.2.2.2))
          have H2 := Lib.hid h2
          clear h2
          generalize sheetsL pp K = sl at *
          have h4' : sl < x := by omega
          go_enter Tryz.func103, Tryz.ntmps103
          go_wp2_with (first | (go_at_call 146; refine (unhide HCL).mono ?_; rintro e w1 ⟨A1, c1, rfl, ho1, hb1⟩) | (go_at_call 71; refine (unhide HAP _ hb1).mono ?_; rw [H2.out]; rintro e w2 ⟨rfl, hb2⟩) | (go_at_call 152; refine (unhide HSL _ (hb1.trans (hb2.mono hb1.size))).mono ?_; rintro e w3 ⟨rfl, hb3⟩))
          refine bodyPost_ret (v := .tuple #[.slice A1 pp.length c1, .bool false]) (by simp [results, Tryz.results103, go_sem, *]) rfl ?_
          exact upap_cast HR.out ⟨A1, c1, rfl, OwnP.of (own_below (own_below ho1 hb2) hb3) (Nat.le_refl _), hb1.trans ((hb2.mono hb1.size).trans (hb3.mono (Nat.le_trans hb1.size hb2.size)))⟩
      · have HR := Lib.hid ((unhide HNO) (fun h => h3 h.2.2.1))
        have H2 := Lib.hid h2
        have h3' : x < 0 := by omega
        clear h2
        go_enter Tryz.func103, Tryz.ntmps103
        go_wp2_with (first | (go_at_call 146; refine (unhide HCL).mono ?_; rintro e w1 ⟨A1, c1, rfl, ho1, hb1⟩) | (go_at_call 71; refine (unhide HAP _ hb1).mono ?_; rw [H2.out]; rintro e w2 ⟨rfl, hb2⟩))
        refine bodyPost_ret (v := .tuple #[.slice A1 pp.length c1, .bool false]) (by simp [results, Tryz.results103, go_sem, *]) rfl ?_
        exact upap_cast HR.out ⟨A1, c1, rfl, OwnP.of (own_below ho1 hb2) (by first | exact Nat.le_refl _ | exact hb2.size), hb1.trans (hb2.mono hb1.size)⟩
  · have HR := Lib.hid ((unhide HNO) (fun h => h1 h.1))
    have h1' : (20 : Int) < (pp.length : Int) := by omega
    go_enter Tryz.func103, Tryz.ntmps103
    go_wp2_with (first | (go_at_call 146; refine (unhide HCL).mono ?_; rintro e w1 ⟨A1, c1, rfl, ho1, hb1⟩))
    refine bodyPost_ret (v := .tuple #[.slice A1 pp.length c1, .bool false]) (by simp [results, Tryz.results103, go_sem, *]) rfl ?_
    exact upap_cast HR.out ⟨A1, c1, rfl, OwnP.of ho1 (Nat.le_refl _), hb1⟩
end Go.Proofs.YtdddglihomchfaaGreat
namespace Go.Proofs.YtdddglihomchfaaGreat
open Go.ChangeShapes Go.WideShapes Go.ChangeAt Go.RowKit
set_option linter.unusedVariables false
set_option linter.unusedSimpArgs false
set_option maxRecDepth 10000
def makeRes (W : PWork) (nm : ByteArray) (k n : Int) : PWork × Bool :=
  if inB n 1 1000 = true ∧ workOk W = true ∧ (named W.P nm).2.2 = true ∧ (useRes W.pp k n).2 = true ∧ W.m + 5 * n ≤ 1000000 then (⟨W.D, W.P, (useRes W.pp k n).1, W.m + 5 * n⟩, true) else (W, false)
theorem make_n1 {W : PWork} {nm : ByteArray} {k n : Int} (h : inB n 1 1000 = false) : makeRes W nm k n = (W, false) := by unfold makeRes; rw [h]; simp
theorem make_n2 {W : PWork} {nm : ByteArray} {k n : Int} (h : (named W.P nm).2.2 = false) : makeRes W nm k n = (W, false) := by unfold makeRes; rw [h]; simp
theorem make_n3 {W : PWork} {nm : ByteArray} {k n : Int} (h : workOk W = false) : makeRes W nm k n = (W, false) := by unfold makeRes; rw [h]; simp
theorem make_n4 {W : PWork} {nm : ByteArray} {k n : Int} (h : (useRes W.pp k n).2 = false) : makeRes W nm k n = (W, false) := by unfold makeRes; rw [h]; simp
theorem make_n5 {W : PWork} {nm : ByteArray} {k n : Int} (h : 1000000 < W.m + 5 * n) : makeRes W nm k n = (W, false) := by unfold makeRes; rw [if_neg (by omega)]
theorem make_y {W : PWork} {nm : ByteArray} {k n : Int} (h1 : inB n 1 1000 = true) (h2 : workOk W = true) (h3 : (named W.P nm).2.2 = true) (h4 : (useRes W.pp k n).2 = true) (h5 : ¬ 1000000 < W.m + 5 * n) : makeRes W nm k n = (⟨W.D, W.P, (useRes W.pp k n).1, W.m + 5 * n⟩, true) := by unfold makeRes; rw [if_pos ⟨h1, h2, h3, h4, by omega⟩]
theorem make_yes {W : PWork} {nm : ByteArray} {k n mo : Int} (hi : inB n 1 1000 = true) (hk : (named W.P nm).2.2 = true) (hm : IntKind.i64.wrap (W.m + 5 * n) = mo) (h : ((useRes W.pp k n).2 && (workOk W && workOk ⟨W.D, W.P, (useRes W.pp k n).1, mo⟩)) = true) : (useRes W.pp k n).2 = true ∧ workOk W = true ∧ workOk ⟨W.D, W.P, (useRes W.pp k n).1, mo⟩ = true ∧ makeRes W nm k n = (⟨W.D, W.P, (useRes W.pp k n).1, mo⟩, true) := by
  simp only [Bool.and_eq_true] at h
  have h1 := workOk_m h.2.1
  have h2 := workOk_m h.2.2
  have h0 := inB_iff'.1 hi
  rw [IntKind.wrap_i64] at hm
  have h3 : mo = W.m + 5 * n := by omega
  simp only at h2
  exact ⟨h.1, h.2.1, h.2.2, by rw [make_y hi h.2.1 hk h.1 (by omega), h3]⟩
theorem workOk_pp {W : PWork} {pp : List PPaper} {mo : Int} (h : workOk W = true) (h1 : papOk pp = true) (h2 : pp.length ≤ 20) (h3 : 0 ≤ mo) (h4 : mo ≤ 1000000) : workOk ⟨W.D, W.P, pp, mo⟩ = true := by rw [workOk_iff] at *; exact ⟨h.1, h.2.1, h2, h1, h3, h4⟩
theorem make_no {W : PWork} {nm : ByteArray} {k n mo : Int} (hm : IntKind.i64.wrap (W.m + 5 * n) = mo) (h : ((useRes W.pp k n).2 && (workOk W && workOk ⟨W.D, W.P, (useRes W.pp k n).1, mo⟩)) = false) : makeRes W nm k n = (W, false) := by
  unfold makeRes
  split
  · rename_i hc
    obtain ⟨h1, h2, h3, h4, h5⟩ := hc
    have hb := workOk_m h2
    have h0 := inB_iff'.1 h1
    rw [IntKind.wrap_i64] at hm
    have h6 : mo = W.m + 5 * n := by omega
    obtain ⟨q1, q2⟩ := useRes_pap h4
    rw [h4, h2, workOk_pp h2 q1 (by rw [useRes_len]; exact q2) (by omega) (by omega)] at h
    cases h
  · rfl
theorem makeRes_ok (W : PWork) (nm : ByteArray) (k n : Int) (h : OkWork W.D W.P W.pp 1048576) : OkWork (makeRes W nm k n).1.D (makeRes W nm k n).1.P (makeRes W nm k n).1.pp 1048576 := by
  unfold makeRes
  split
  · exact ⟨h.d, h.i, by simp only [useRes_len]; exact h.p⟩
  · exact h
def buyRes (W : PWork) (k n : Int) : PWork × Bool :=
  if inB n 1 1000 = true ∧ workOk W = true ∧ workOk ⟨W.D, W.P, W.pp ++ [⟨k, 100, n⟩], W.m - 2 * n⟩ = true then (⟨W.D, W.P, W.pp ++ [⟨k, 100, n⟩], W.m - 2 * n⟩, true) else (W, false)
end Go.Proofs.YtdddglihomchfaaGreat
namespace Go.Proofs.YtdddglihomchfaaGreat
open Go.ChangeShapes Go.WideShapes Go.ChangeAt Go.RowKit
set_option linter.unusedVariables false
set_option linter.unusedSimpArgs false
set_option maxRecDepth 10000
set_option maxHeartbeats 1600000 in
theorem s_UsePaper (pp : List PPaper) (K x : Int) (B : Nat) (A : Option Addr) (c : Nat) (w : World) (hS : Papers w B A pp.length pp) (hB : B ≤ w.heap.size) :
    Calls Tryz.prog 101 #[.slice A pp.length c, .int .i64 K, .int .i64 x] w (UPapB (useRes pp K x).1 (useRes pp K x).2 w) := by
  obtain ⟨n, hnn⟩ : ∃ n, n = pp.length := ⟨_, rfl⟩
  obtain ⟨i0, hi0, hz0, hz1, hz2⟩ := info_parts info_paperCells
  have hown : (w.alloc (.cells #[] 118)).ownsRow w.heap.size 118 3 (.slice (some ⟨w.heap.size, 0, none⟩) 0 0) 0 [] := World.ownsRow_made w #[] 0 (Nat.le_refl _) (by unfold maxLen; omega) rfl
  have hR1 := hS.rd.alloc hB (.cells #[] 118)
  have hone := paperCells_one pp
  have HOWN := hide hown
  have HR1 := hide hR1
  have HONE := hide hone
  have HSS := hide hS
  clear hown hR1 hone
  have hap := fun (W : World) (hW : Below w.heap.size w W) => s_l23Ok pp B A pp.length c W (hS.below (hW.mono hB)) (Nat.le_trans hB hW.size)
  have hsl := fun (W : World) (hW : Below w.heap.size w W) => s_SheetsLeft pp K B A pp.length c W (hS.below (hW.mono hB)) (Nat.le_trans hB hW.size)
  have hn := hS.nb
  have hno := fun h => useRes_no (pp := pp) (K := K) (x := x) h
  have hyes := fun h1 h2 h3 h4 => useRes_yes (pp := pp) (K := K) (x := x) h1 h2 h3 h4
  have HAP := hide hap
  have HSL := hide hsl
  have HNO := hide hno
  have HYES := hide hyes
  have HNN := Lib.hid hnn
  clear hap hsl hno hyes hS
  cases h2 : papOk pp
  · have HR := Lib.hid ((unhide HNO) (by rw [h2]; simp))
    have H2 := Lib.hid h2
    clear h2
    go_enter Tryz.func101, Tryz.ntmps101
    go_wp2_with (first | (at_builtin; refine wpList_append_N _ rfl (.tmp 11) (.tmp 12) _ rfl w.heap.size 118 i0 _ 3 24 Tryz.underlying39 hi0 hz0 hz1 hz2 rfl (by omega) (.slice (some ⟨w.heap.size, 0, none⟩) 0 0) 0 [] rfl (unhide HOWN) B A pp.length c (pp.flatMap paperCells) rfl (unhide HR1) (unhide HONE) ?_ ?_ ?_ pp.length _ (by omega) (List.nil_append _) ?_; (unfold maxLen; omega); omega; (simp); intro A1 c1 w1 ho1 hb1q; (have hb1 : Below w.heap.size w w1 := ((Below.refl w.heap.size w).alloc (Nat.le_refl _) _).trans hb1q); clear hb1q) | (go_at_call 64; refine (unhide HAP _ hb1).mono ?_; rw [H2.out]; rintro e w2 ⟨rfl, hb2⟩))
    refine bodyPost_ret (v := .tuple #[.slice A1 pp.length c1, .bool false]) (by simp [results, Tryz.results101, go_sem, *]) rfl ?_
    exact upap_cast HR.out ⟨A1, c1, rfl, OwnP.of (own_below ho1 hb2) (by first | exact Nat.le_refl _ | exact hb2.size), hb1.trans (hb2.mono hb1.size)⟩
  · by_cases h1 : pp.length ≤ 20
    · by_cases h3 : 0 ≤ x
      · by_cases h4 : x ≤ sheetsL pp K
        · have HR := Lib.hid ((unhide HYES) h1 h2 h3 h4)
          have hbd := fun j (hj : j ≤ n) => useN_bd h2 K h3 j (by omega)
          have hlen := fun j => useN_len pp K x j
          have hget := fun j => useN_get pp K x j j (Nat.le_refl _)
          have hpo := fun (p : PPaper) (hp : p ∈ pp) => papOk_at h2 hp
          have hxb : x ≤ 1677721600000 := by have h8 := sumK_bd h2 K pp.length (Nat.le_refl _); rw [sheetsL_yes h2] at h4; omega
          have H2 := Lib.hid h2
          have HBD := hide hbd
          have HLEN := hide hlen
          have HGET := hide hget
          have HPO := hide hpo
          clear h2 hbd hlen hget hpo
          generalize sheetsL pp K = sl at *
          have h4' : ¬ sl < x := by omega
          go_enter Tryz.func101, Tryz.ntmps101
          go_wp2_with (first | (at_builtin; refine wpList_append_N _ rfl (.tmp 11) (.tmp 12) _ rfl w.heap.size 118 i0 _ 3 24 Tryz.underlying39 hi0 hz0 hz1 hz2 rfl (by omega) (.slice (some ⟨w.heap.size, 0, none⟩) 0 0) 0 [] rfl (unhide HOWN) B A pp.length c (pp.flatMap paperCells) rfl (unhide HR1) (unhide HONE) ?_ ?_ ?_ pp.length _ (by omega) (List.nil_append _) ?_; (unfold maxLen; omega); omega; (simp); intro A1 c1 w1 ho1 hb1q; (have hb1 : Below w.heap.size w w1 := ((Below.refl w.heap.size w).alloc (Nat.le_refl _) _).trans hb1q); clear hb1q) | (go_at_call 64; refine (unhide HAP _ hb1).mono ?_; rw [H2.out]; rintro e w2 ⟨rfl, hb2⟩) | (go_at_call 151; refine (unhide HSL _ (hb1.trans (hb2.mono hb1.size))).mono ?_; rintro e w3 ⟨rfl, hb3⟩))
          have hb123 : Below w.heap.size w w3 := hb1.trans ((hb2.mono hb1.size).trans (hb3.mono (Nat.le_trans hb1.size hb2.size)))
          have ho3 := own_below (own_below ho1 hb2) hb3
          clear hb1 hb2 hb3 ho1
          go_loopw [2, 9] (fun q i wr => ∃ (j : Nat) (y : Int) (l : List PPaper), j ≤ n ∧ i = .int .i64 j ∧ q = .int .i64 y ∧ Hid (useN pp K x j = (l, y)) ∧ wr.ownsRow w.heap.size 118 3 (.slice A1 pp.length c1) pp.length (l.flatMap paperCells) ∧ Below w.heap.size w wr) (fun _ i _ => n - (intOf i).toNat)
          case atStart => exact ⟨0, x, pp, Nat.zero_le _, rfl, rfl, rfl, ho3, hb123⟩
          case round =>
            obtain ⟨j, y, l, hj, rfl, rfl, HU, hown, hb⟩ := hrel
            have hzr := hb.size
            have hyb := (unhide HBD) j hj
            rw [HU.out] at hyb
            simp only at hyb
            by_cases hlt : j < n
            · have hjp : j < pp.length := by rw [← HNN.out]; exact hlt
              have hll : l.length = pp.length := by have := (unhide HLEN) j; rw [HU.out] at this; exact this
              have hjl : j < l.length := by omega
              have hlj : l[j] = pp[j] := by
                have := (unhide HGET) j
                rw [HU.out] at this
                simp only at this
                rw [List.getElem?_eq_getElem hjl, List.getElem?_eq_getElem hjp] at this
                injection this
              obtain ⟨g, cap, hv, hbg, hglt⟩ := hown.form (by omega)
              have hA : A1 = some ⟨g, 0, none⟩ := by injection hv
              subst hA
              clear hv
              have hcc := fun i hi => flat_get paperCells_len l j i hjl hi
              obtain ⟨hkq, ad, rfl, hab, hd0, hd1, hd2⟩ := ((unhide HSS).below (hb.mono hB)).at_ hjp
              have hmc : min y pp[j].s = min pp[j].s y := Int.min_comm _ _
              have hc0 : wr.cell? ⟨g, j * 3, none⟩ = some (.int .i64 pp[j].k) := by have := hown.cellAt (j * 3) (by omega); rw [this, ← hlj]; exact hcc 0 (by omega)
              have hc1 : wr.cell? ⟨g, j * 3 + 1, none⟩ = some (.int .i64 pp[j].g) := by have := hown.cellAt (j * 3 + 1) (by omega); rw [this, ← hlj]; exact hcc 1 (by omega)
              have hc2 : wr.cell? ⟨g, j * 3 + 2, none⟩ = some (.int .i64 pp[j].s) := by have := hown.cellAt (j * 3 + 2) (by omega); rw [this, ← hlj]; exact hcc 2 (by omega)
              have hf2 := hown.frozenAt (j * 3 + 2)
              have hpb := (unhide HPO) _ (List.getElem_mem hjp)
              have hw1 : IntKind.i64.wrap (pp[j].s - min pp[j].s y) = pp[j].s - min pp[j].s y := by rw [IntKind.wrap_i64]; omega
              have hw2 : IntKind.i64.wrap (y - min pp[j].s y) = y - min pp[j].s y := by rw [IntKind.wrap_i64]; omega
              have HSET := hide (set_sheets l j hjl (pp[j].s - min pp[j].s y))
              have HLJ := Lib.hid hlj
              clear hcc hll hlj
              by_cases hk : pp[j].k = K
              · have HS := Lib.hid (useN_yes (x := x) hjp hk)
                go_wp2
                go_roundw
                case rel =>
                  have hst := hown.stored (j * 3 + 2) (.int .i64 (pp[j].s - min pp[j].s y))
                  refine ⟨j + 1, y - min pp[j].s y, l.set j ⟨pp[j].k, pp[j].g, pp[j].s - min pp[j].s y⟩, by omega, by go_num, rfl, ?_, ?_, ?_⟩
                  · unfold Hid; rw [HS.out, HU.out]
                  · have h9 := hst.1
                    rw [unhide HSET, HLJ.out] at h9
                    exact h9
                  · exact hb.setCell (p := ⟨g, j * 3 + 2, none⟩) hbg _
                case measure => simp [intOf]; omega
              · have HS := Lib.hid (useN_no (x := x) hjp hk)
                go_wp2
                go_roundw
                case rel => exact ⟨j + 1, y, l, by omega, by go_num, rfl, by unfold Hid; rw [HS.out]; exact HU.out, hown, hb⟩
                case measure => simp [intOf]; omega
            · have hjn : j = pp.length := by have := HNN.out; omega
              have HF : Hid (useRes pp K x = (l, true)) := by unfold Hid; rw [HR.out, ← hjn, HU.out]
              have hll : l.length = pp.length := by have := (unhide HLEN) j; rw [HU.out] at this; exact this
              clear hjn
              go_wp2
              refine bodyPost_ret (v := .tuple #[.slice A1 pp.length c1, .bool true]) (by simp [results, Tryz.results101, go_sem, *]) rfl ?_
              rw [← hll] at hown ⊢
              exact upap_cast HF.out ⟨A1, c1, rfl, OwnP.of hown (Nat.le_refl _), hb⟩
        · have HR := Lib.hid ((unhide HNO) (fun h => h4 h.2.2.2))
          have H2 := Lib.hid h2
          clear h2
          generalize sheetsL pp K = sl at *
          have h4' : sl < x := by omega
          go_enter Tryz.func101, Tryz.ntmps101
          go_wp2_with (first | (at_builtin; refine wpList_append_N _ rfl (.tmp 11) (.tmp 12) _ rfl w.heap.size 118 i0 _ 3 24 Tryz.underlying39 hi0 hz0 hz1 hz2 rfl (by omega) (.slice (some ⟨w.heap.size, 0, none⟩) 0 0) 0 [] rfl (unhide HOWN) B A pp.length c (pp.flatMap paperCells) rfl (unhide HR1) (unhide HONE) ?_ ?_ ?_ pp.length _ (by omega) (List.nil_append _) ?_; (unfold maxLen; omega); omega; (simp); intro A1 c1 w1 ho1 hb1q; (have hb1 : Below w.heap.size w w1 := ((Below.refl w.heap.size w).alloc (Nat.le_refl _) _).trans hb1q); clear hb1q) | (go_at_call 64; refine (unhide HAP _ hb1).mono ?_; rw [H2.out]; rintro e w2 ⟨rfl, hb2⟩) | (go_at_call 151; refine (unhide HSL _ (hb1.trans (hb2.mono hb1.size))).mono ?_; rintro e w3 ⟨rfl, hb3⟩))
          refine bodyPost_ret (v := .tuple #[.slice A1 pp.length c1, .bool false]) (by simp [results, Tryz.results101, go_sem, *]) rfl ?_
          exact upap_cast HR.out ⟨A1, c1, rfl, OwnP.of (own_below (own_below ho1 hb2) hb3) (Nat.le_refl _), hb1.trans ((hb2.mono hb1.size).trans (hb3.mono (Nat.le_trans hb1.size hb2.size)))⟩
      · have HR := Lib.hid ((unhide HNO) (fun h => h3 h.2.2.1))
        have H2 := Lib.hid h2
        have h3' : x < 0 := by omega
        clear h2
        go_enter Tryz.func101, Tryz.ntmps101
        go_wp2_with (first | (at_builtin; refine wpList_append_N _ rfl (.tmp 11) (.tmp 12) _ rfl w.heap.size 118 i0 _ 3 24 Tryz.underlying39 hi0 hz0 hz1 hz2 rfl (by omega) (.slice (some ⟨w.heap.size, 0, none⟩) 0 0) 0 [] rfl (unhide HOWN) B A pp.length c (pp.flatMap paperCells) rfl (unhide HR1) (unhide HONE) ?_ ?_ ?_ pp.length _ (by omega) (List.nil_append _) ?_; (unfold maxLen; omega); omega; (simp); intro A1 c1 w1 ho1 hb1q; (have hb1 : Below w.heap.size w w1 := ((Below.refl w.heap.size w).alloc (Nat.le_refl _) _).trans hb1q); clear hb1q) | (go_at_call 64; refine (unhide HAP _ hb1).mono ?_; rw [H2.out]; rintro e w2 ⟨rfl, hb2⟩))
        refine bodyPost_ret (v := .tuple #[.slice A1 pp.length c1, .bool false]) (by simp [results, Tryz.results101, go_sem, *]) rfl ?_
        exact upap_cast HR.out ⟨A1, c1, rfl, OwnP.of (own_below ho1 hb2) (by first | exact Nat.le_refl _ | exact hb2.size), hb1.trans (hb2.mono hb1.size)⟩
    · have HR := Lib.hid ((unhide HNO) (fun h => h1 h.1))
      have H2 := Lib.hid h2
      clear h2
      have h1' : (20 : Int) < (pp.length : Int) := by omega
      go_enter Tryz.func101, Tryz.ntmps101
      go_wp2_with (first | (at_builtin; refine wpList_append_N _ rfl (.tmp 11) (.tmp 12) _ rfl w.heap.size 118 i0 _ 3 24 Tryz.underlying39 hi0 hz0 hz1 hz2 rfl (by omega) (.slice (some ⟨w.heap.size, 0, none⟩) 0 0) 0 [] rfl (unhide HOWN) B A pp.length c (pp.flatMap paperCells) rfl (unhide HR1) (unhide HONE) ?_ ?_ ?_ pp.length _ (by omega) (List.nil_append _) ?_; (unfold maxLen; omega); omega; (simp); intro A1 c1 w1 ho1 hb1q; (have hb1 : Below w.heap.size w w1 := ((Below.refl w.heap.size w).alloc (Nat.le_refl _) _).trans hb1q); clear hb1q) | (go_at_call 64; refine (unhide HAP _ hb1).mono ?_; rw [H2.out]; rintro e w2 ⟨rfl, hb2⟩))
      refine bodyPost_ret (v := .tuple #[.slice A1 pp.length c1, .bool false]) (by simp [results, Tryz.results101, go_sem, *]) rfl ?_
      exact upap_cast HR.out ⟨A1, c1, rfl, OwnP.of (own_below ho1 hb2) (by first | exact Nat.le_refl _ | exact hb2.size), hb1.trans (hb2.mono hb1.size)⟩
end Go.Proofs.YtdddglihomchfaaGreat
