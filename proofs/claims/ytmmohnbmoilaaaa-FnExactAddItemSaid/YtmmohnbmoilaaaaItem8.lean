/- The contract of CardNamed of the reference. -/
import Derived.Test.YtmmohnbmoilaaaaItem7
namespace Go.Proofs.Ytmmohnbmoilaaaa
open Go.ChangeShapes Go.WideShapes Go.ChangeAt Go.RowKit
set_option linter.unusedVariables false
set_option maxRecDepth 10000

theorem named_zero {P : List PItem} {name : ByteArray} (h : noNm P name P.length) : named P name = ((0, 0), ([], false)) := by
  cases hc : catOk P
  · exact named_no1 hc
  · exact named_no2 (idxNm_none h)
theorem named_ok (P : List PItem) (name : ByteArray) (h : OkItems P 1048576) : OkS (named P name).2.1 1048576 := by
  unfold named
  split
  · split
    · split
      · rename_i hx
        have := List.mem_of_getElem? hx
        exact ⟨(h.2 _ this).1, (h.2 _ this).2.1⟩
      · exact ⟨by simp, fun s hs => by simp at hs⟩
    · exact ⟨by simp, fun s hs => by simp at hs⟩
  · exact ⟨by simp, fun s hs => by simp at hs⟩
set_option maxHeartbeats 3200000 in
theorem s_CardNamed (name : ByteArray) (P : List PItem) (B : Nat) (A : Option Addr) (n c : Nat) (L : List RItem) (w : World) (hp : plI L = P) (hS : Items w B A n L) (hB : B ≤ w.heap.size) :
    Calls Try.prog 39 #[.slice A n c, .string name] w (UCardB (named P name).1.1 (named P name).1.2 (named P name).2.1 (named P name).2.2 w) := by
  have hn := hS.nb
  have hl : P.length = n := by rw [← hp, plI_len, hS.len]
  have hco := fun (W : World) (hW : Below w.heap.size w W) => s_CatalogOk P B A n c L W hp (hS.below (hW.mono hB)) (Nat.le_trans hB hW.size)
  have HCO := hide hco
  have HL := Lib.hid hl
  have HP := Lib.hid hp
  clear hl hp hco
  have hk0 := blk_new w (.cells #[.int .i64 0, .int .i64 0, .slice none 0 0] 34)
  go_enter Try.func39, Try.ntmps39
  go_wp2
  go_loopw [6] (fun i wr => ∃ j : Nat, j ≤ n ∧ i = .int .i64 j ∧ Hid (noNm P name j) ∧ Below (w.heap.size + 1) (w.alloc (.cells #[.int .i64 0, .int .i64 0, .slice none 0 0] 34)) wr) (fun i _ => n - (intOf i).toNat)
  case atStart => exact ⟨0, Nat.zero_le _, rfl, noNm_zero _ _, Below.refl _ _⟩
  case round =>
    obtain ⟨j, hj, rfl, HN, hb⟩ := hrel
    have hkr := blk_below hk0 hb (by omega)
    have hzr : w.heap.size < wr.heap.size := blk_lt hkr
    have hbw : Below w.heap.size w wr := ((Below.refl _ _).alloc (Nat.le_refl _) _).trans (hb.mono (by omega))
    obtain ⟨hx0, hx1, hx2, hxl⟩ := blk3 hkr
    have hz0 := (blk_cells hkr 0).2
    have hz1 := (blk_cells hkr 1).2
    have hz2 := (blk_cells hkr 2).2
    by_cases hlt : j < n
    · obtain ⟨hk1, ad, rfl, hab, hc0, hc1, hc2, hc3, hss, hnm⟩ := (hS.below (hbw.mono hB)).at_ hlt
      have HX := Lib.hid (show P[j]? = some L[j].x by rw [← HP.out]; exact plI_at hk1)
      have hq1 : (ad.add (j * 4)).block < wr.heap.size := by rw [block_of_add]; omega
      cases hck : catOk P
      · have HR := Lib.hid (named_no1 (name := name) hck)
        have hco := unhide HCO wr hbw
        rw [hck] at hco
        have HC := hide hco
        clear hco hck
        go_wp2_with (first | (go_at_call 101; refine (unhide HC).mono ?_; rintro e w1 ⟨rfl, hb1⟩; obtain ⟨hcb1, hfb1⟩ := bcell hb1; (have hz9 : w.heap.size < w1.heap.size := (by have := hb1.size; omega)); (have hbw1 : Below w.heap.size w w1 := hbw.trans (hb1.mono (by omega)))))
        refine bodyPost_ret (v := .tuple #[.agg #[.int .i64 0, .int .i64 0, .slice none 0 0], .bool false]) (by simp [results, Try.results39, go_sem, *]) rfl ?_
        exact ucardB_cast HR.out (zeroCard _ _ (by repeat (first | (with_reducible exact Below.refl _ _) | (with_reducible assumption) | (with_reducible exact (‹_ ∧ _ ∧ Below _ _ _›).2.2) | (with_reducible refine below_drewN ?_ _) | (with_reducible refine Below.drew ?_) | ((with_reducible refine Below.alloc ?_ ?hsd _); (case hsd => (first | exact Nat.le_refl _ | (simp; done) | omega | (simp; omega) | exact (‹_ ∧ _ ∧ Below _ _ _›).2.2.size))) | ((with_reducible refine Below.setCell ?_ ?hsd _); (case hsd => (first | exact Nat.le_refl _ | (simp; done) | omega | (simp; omega) | exact (‹_ ∧ _ ∧ Below _ _ _›).2.2.size))) | ((with_reducible refine Below.trans ?_ (Below.mono (by with_reducible assumption) ?hsd)); (case hsd => (first | exact Nat.le_refl _ | (simp; done) | omega | (simp; omega) | exact (‹_ ∧ _ ∧ Below _ _ _›).2.2.size))) | exact Below.refl _ _ | assumption | exact (‹_ ∧ _ ∧ Below _ _ _›).2.2 | refine below_drewN ?_ _ | refine Below.drew ?_ | refine Below.alloc ?_ (by first | exact Nat.le_refl _ | (simp; done) | omega | (simp; omega) | exact (‹_ ∧ _ ∧ Below _ _ _›).2.2.size) _ | refine Below.setCell ?_ (by first | exact Nat.le_refl _ | (simp; done) | omega | (simp; omega) | exact (‹_ ∧ _ ∧ Below _ _ _›).2.2.size) _ | refine Below.trans ?_ (Below.mono (by assumption) (by first | exact Nat.le_refl _ | (simp; done) | omega | (simp; omega) | exact (‹_ ∧ _ ∧ Below _ _ _›).2.2.size)))))
      · by_cases hq : L[j].x.nm = name
        · have HR := Lib.hid (named_yes hck (idxNm_some HN.out HX.out hq) HX.out)
          have hbq := beq_toList_true hq
          have hco := unhide HCO wr hbw
          rw [hck] at hco
          have HC := hide hco
          clear hco hck hq
          go_wp2_with (first | (go_at_call 101; refine (unhide HC).mono ?_; rintro e w1 ⟨rfl, hb1⟩; obtain ⟨hcb1, hfb1⟩ := bcell hb1; (have hz9 : w.heap.size < w1.heap.size := (by have := hb1.size; omega)); (have hbw1 : Below w.heap.size w w1 := hbw.trans (hb1.mono (by omega))); (have hcc1 : ∀ q : Addr, q.block < wr.heap.size → w1.cell? q = wr.cell? q := fun q hq => hb1.cell hq); (have hss1 := (hss.more (B' := wr.heap.size) (by omega)).below hb1)) | (go_at_call 103; refine (s_l05Copy _ _ wr.heap.size _ _ _ _ _ hss1 hb1.size).mono ?_; rintro e w3 ⟨A3, c3, rfl, ho3, hb3⟩; obtain ⟨hcb3, hfb3⟩ := bcell hb3; (have hz3 : w.heap.size < w3.heap.size := (by have := hb3.size; omega)); (have hbw3 : Below w.heap.size w w3 := hbw1.trans (hb3.mono hbw1.size))))
          refine bodyPost_ret (v := .tuple #[.agg #[.int .i64 L[j].x.d, .int .i64 L[j].x.f, .slice A3 L[j].x.ss.length c3], .bool true]) (by simp [results, Try.results39, go_sem, *]) rfl ?_
          refine ucardB_cast HR.out ⟨A3, c3, rfl, OwnS.of (own_up ho3 (by repeat (first | (with_reducible exact Upper.refl _ _) | (with_reducible refine Upper.drew ?_) | (with_reducible refine Upper.drewN ?_ _) | ((with_reducible refine Upper.setCell ?_ ?hsd _); (case hsd => (first | exact Nat.le_refl _ | (simp; done) | omega | (simp; omega) | exact (‹_ ∧ _ ∧ Below _ _ _›).2.2.size))) | (with_reducible refine Upper.alloc ?_ _) | (with_reducible refine Upper.below ?_ (by with_reducible assumption)) | exact Upper.refl _ _ | refine Upper.drew ?_ | refine Upper.drewN ?_ _ | refine Upper.setCell ?_ (by first | exact Nat.le_refl _ | (simp; done) | omega | (simp; omega) | exact (‹_ ∧ _ ∧ Below _ _ _›).2.2.size) _ | refine Upper.alloc ?_ _ | refine Upper.below ?_ (by assumption))) hbw1.size) (by simp), (by repeat (first | (with_reducible exact Below.refl _ _) | (with_reducible assumption) | (with_reducible exact (‹_ ∧ _ ∧ Below _ _ _›).2.2) | (with_reducible refine below_drewN ?_ _) | (with_reducible refine Below.drew ?_) | ((with_reducible refine Below.alloc ?_ ?hsd _); (case hsd => (first | exact Nat.le_refl _ | (simp; done) | omega | (simp; omega) | exact (‹_ ∧ _ ∧ Below _ _ _›).2.2.size))) | ((with_reducible refine Below.setCell ?_ ?hsd _); (case hsd => (first | exact Nat.le_refl _ | (simp; done) | omega | (simp; omega) | exact (‹_ ∧ _ ∧ Below _ _ _›).2.2.size))) | ((with_reducible refine Below.trans ?_ (Below.mono (by with_reducible assumption) ?hsd)); (case hsd => (first | exact Nat.le_refl _ | (simp; done) | omega | (simp; omega) | exact (‹_ ∧ _ ∧ Below _ _ _›).2.2.size))) | exact Below.refl _ _ | assumption | exact (‹_ ∧ _ ∧ Below _ _ _›).2.2 | refine below_drewN ?_ _ | refine Below.drew ?_ | refine Below.alloc ?_ (by first | exact Nat.le_refl _ | (simp; done) | omega | (simp; omega) | exact (‹_ ∧ _ ∧ Below _ _ _›).2.2.size) _ | refine Below.setCell ?_ (by first | exact Nat.le_refl _ | (simp; done) | omega | (simp; omega) | exact (‹_ ∧ _ ∧ Below _ _ _›).2.2.size) _ | refine Below.trans ?_ (Below.mono (by assumption) (by first | exact Nat.le_refl _ | (simp; done) | omega | (simp; omega) | exact (‹_ ∧ _ ∧ Below _ _ _›).2.2.size))))⟩
        · have HS := Lib.hid (noNm_succ HN.out HX.out hq)
          have hbq := beq_toList_false hq
          have hco := unhide HCO wr hbw
          rw [hck] at hco
          have HC := hide hco
          clear hco hck hq
          go_wp2_with (first | (go_at_call 101; refine (unhide HC).mono ?_; rintro e w1 ⟨rfl, hb1⟩; obtain ⟨hcb1, hfb1⟩ := bcell hb1; (have hz9 : w.heap.size < w1.heap.size := (by have := hb1.size; omega)); (have hcc1 : ∀ q : Addr, q.block < wr.heap.size → w1.cell? q = wr.cell? q := fun q hq => hb1.cell hq)))
          go_roundw
          case rel => exact ⟨j + 1, by omega, by go_num, HS.out, hb.trans (hb1.mono (by omega))⟩
          case measure => simp [intOf]; omega
    · have hjn : j = n := by omega
      have HR := Lib.hid (named_zero (P := P) (name := name) (by rw [HL.out, ← hjn]; exact HN.out))
      clear hjn
      go_wp2
      refine bodyPost_ret (v := .tuple #[.agg #[.int .i64 0, .int .i64 0, .slice none 0 0], .bool false]) (by simp [results, Try.results39, go_sem, *]) rfl ?_
      exact ucardB_cast HR.out (zeroCard _ _ (by repeat (first | (with_reducible exact Below.refl _ _) | (with_reducible assumption) | (with_reducible exact (‹_ ∧ _ ∧ Below _ _ _›).2.2) | (with_reducible refine below_drewN ?_ _) | (with_reducible refine Below.drew ?_) | ((with_reducible refine Below.alloc ?_ ?hsd _); (case hsd => (first | exact Nat.le_refl _ | (simp; done) | omega | (simp; omega) | exact (‹_ ∧ _ ∧ Below _ _ _›).2.2.size))) | ((with_reducible refine Below.setCell ?_ ?hsd _); (case hsd => (first | exact Nat.le_refl _ | (simp; done) | omega | (simp; omega) | exact (‹_ ∧ _ ∧ Below _ _ _›).2.2.size))) | ((with_reducible refine Below.trans ?_ (Below.mono (by with_reducible assumption) ?hsd)); (case hsd => (first | exact Nat.le_refl _ | (simp; done) | omega | (simp; omega) | exact (‹_ ∧ _ ∧ Below _ _ _›).2.2.size))) | exact Below.refl _ _ | assumption | exact (‹_ ∧ _ ∧ Below _ _ _›).2.2 | refine below_drewN ?_ _ | refine Below.drew ?_ | refine Below.alloc ?_ (by first | exact Nat.le_refl _ | (simp; done) | omega | (simp; omega) | exact (‹_ ∧ _ ∧ Below _ _ _›).2.2.size) _ | refine Below.setCell ?_ (by first | exact Nat.le_refl _ | (simp; done) | omega | (simp; omega) | exact (‹_ ∧ _ ∧ Below _ _ _›).2.2.size) _ | refine Below.trans ?_ (Below.mono (by assumption) (by first | exact Nat.le_refl _ | (simp; done) | omega | (simp; omega) | exact (‹_ ∧ _ ∧ Below _ _ _›).2.2.size)))))
end Go.Proofs.Ytmmohnbmoilaaaa
