/- The contract of the program's DropItem. -/
import Derived.Test.YtmmohnbmoilaaaaItem9
namespace Go.Proofs.Ytmmohnbmoilaaaa
open Go.ChangeShapes Go.WideShapes Go.ChangeAt Go.RowKit
set_option linter.unusedVariables false
set_option maxRecDepth 10000

/-- what DropItem gives -/
def dropped (P : List PItem) (name : ByteArray) : List PItem × Bool :=
  if catOk P = true then match idxNm P name with | some k => (P.take k ++ P.drop (k + 1), true) | none => (P, false) else (P, false)
theorem dropped_no1 {P : List PItem} {name : ByteArray} (h : catOk P = false) : dropped P name = (P, false) := by unfold dropped; rw [h]; simp
theorem dropped_no2 {P : List PItem} {name : ByteArray} (h : idxNm P name = none) : dropped P name = (P, false) := by unfold dropped; rw [h]; split <;> rfl
theorem dropped_yes {P : List PItem} {name : ByteArray} {k : Nat} (h : catOk P = true) (h2 : idxNm P name = some k) : dropped P name = (P.take k ++ P.drop (k + 1), true) := by unfold dropped; rw [h, if_pos rfl, h2]
theorem dropped_ok (P : List PItem) (name : ByteArray) (m : Nat) (h : OkItems P m) : OkItems (dropped P name).1 m := by
  unfold dropped
  split
  · split
    · rename_i k _
      have hs := sub_erase P k
      exact ⟨Nat.le_trans hs.length_le h.1, fun x hx => h.2 x (hs.subset hx)⟩
    · exact h
  · exact h
/-- fresh items and a bool -/
def UItemsB (P : List PItem) (b : Bool) (w : World) (e : Ending) (w' : World) : Prop :=
  ∃ A c L, e = .returned (.tuple #[.slice A P.length c, .bool b]) ∧ plI L = P ∧ OwnItems w' w.heap.size w'.heap.size A P.length c L ∧ Below w.heap.size w w'
theorem uitemsB_cast {P : List PItem} {b : Bool} {q : List PItem × Bool} {w w' : World} {e : Ending} (h : q = (P, b)) (hu : UItemsB P b w e w') : UItemsB q.1 q.2 w e w' := by subst h; exact hu
set_option maxHeartbeats 3200000 in
theorem i_DropItem (name : ByteArray) (P : List PItem) (B : Nat) (A : Option Addr) (n c : Nat) (L : List RItem) (w : World) (hp : plI L = P) (hS : Items w B A n L) (hB : B ≤ w.heap.size) :
    Calls Try.prog 38 #[.slice A n c, .string name] w (UItemsB (dropped P name).1 (dropped P name).2 w) := by
  have hn := hS.nb
  have hix := fun (W : World) (hW : Below w.heap.size w W) => i_itemNamed name P B A n c L W hp (hS.below (hW.mono hB)) (Nat.le_trans hB hW.size)
  have hco := fun (W : World) (hW : Below w.heap.size w W) => i_CatalogOk P B A n c L W hp (hS.below (hW.mono hB)) (Nat.le_trans hB hW.size)
  have hcp := fun (W : World) (hW : Below w.heap.size w W) => u_copyItems P B A n c L W hp (hS.below (hW.mono hB)) (Nat.le_trans hB hW.size)
  have HCP := hide hcp
  clear hcp
  cases hck : catOk P
  · have HR := Lib.hid (dropped_no1 (name := name) hck)
    simp only [hck] at hco
    have HIX := hide hix
    have HCO := hide hco
    clear hix hco hck
    go_enter Try.func38, Try.ntmps38
    go_wp2_with (first | (go_at_call 111; refine (unhide HIX _ (by exact (by repeat (first | (with_reducible exact Below.refl _ _) | (with_reducible assumption) | (with_reducible exact (‹_ ∧ _ ∧ Below _ _ _›).2.2) | (with_reducible refine below_drewN ?_ _) | (with_reducible refine Below.drew ?_) | ((with_reducible refine Below.alloc ?_ ?hsd _); (case hsd => (first | exact Nat.le_refl _ | (simp; done) | omega | (simp; omega) | exact (‹_ ∧ _ ∧ Below _ _ _›).2.2.size))) | ((with_reducible refine Below.setCell ?_ ?hsd _); (case hsd => (first | exact Nat.le_refl _ | (simp; done) | omega | (simp; omega) | exact (‹_ ∧ _ ∧ Below _ _ _›).2.2.size))) | ((with_reducible refine Below.trans ?_ (Below.mono (by with_reducible assumption) ?hsd)); (case hsd => (first | exact Nat.le_refl _ | (simp; done) | omega | (simp; omega) | exact (‹_ ∧ _ ∧ Below _ _ _›).2.2.size))) | exact Below.refl _ _ | assumption | exact (‹_ ∧ _ ∧ Below _ _ _›).2.2 | refine below_drewN ?_ _ | refine Below.drew ?_ | refine Below.alloc ?_ (by first | exact Nat.le_refl _ | (simp; done) | omega | (simp; omega) | exact (‹_ ∧ _ ∧ Below _ _ _›).2.2.size) _ | refine Below.setCell ?_ (by first | exact Nat.le_refl _ | (simp; done) | omega | (simp; omega) | exact (‹_ ∧ _ ∧ Below _ _ _›).2.2.size) _ | refine Below.trans ?_ (Below.mono (by assumption) (by first | exact Nat.le_refl _ | (simp; done) | omega | (simp; omega) | exact (‹_ ∧ _ ∧ Below _ _ _›).2.2.size)))))).mono ?_; rintro e w1 ⟨rfl, hb1⟩; obtain ⟨hcb1, hfb1⟩ := bcell hb1; (have hbw1 : Below w.heap.size w w1 := (by repeat (first | (with_reducible exact Below.refl _ _) | (with_reducible assumption) | (with_reducible exact (‹_ ∧ _ ∧ Below _ _ _›).2.2) | (with_reducible refine below_drewN ?_ _) | (with_reducible refine Below.drew ?_) | ((with_reducible refine Below.alloc ?_ ?hsd _); (case hsd => (first | exact Nat.le_refl _ | (simp; done) | omega | (simp; omega) | exact (‹_ ∧ _ ∧ Below _ _ _›).2.2.size))) | ((with_reducible refine Below.setCell ?_ ?hsd _); (case hsd => (first | exact Nat.le_refl _ | (simp; done) | omega | (simp; omega) | exact (‹_ ∧ _ ∧ Below _ _ _›).2.2.size))) | ((with_reducible refine Below.trans ?_ (Below.mono (by with_reducible assumption) ?hsd)); (case hsd => (first | exact Nat.le_refl _ | (simp; done) | omega | (simp; omega) | exact (‹_ ∧ _ ∧ Below _ _ _›).2.2.size))) | exact Below.refl _ _ | assumption | exact (‹_ ∧ _ ∧ Below _ _ _›).2.2 | refine below_drewN ?_ _ | refine Below.drew ?_ | refine Below.alloc ?_ (by first | exact Nat.le_refl _ | (simp; done) | omega | (simp; omega) | exact (‹_ ∧ _ ∧ Below _ _ _›).2.2.size) _ | refine Below.setCell ?_ (by first | exact Nat.le_refl _ | (simp; done) | omega | (simp; omega) | exact (‹_ ∧ _ ∧ Below _ _ _›).2.2.size) _ | refine Below.trans ?_ (Below.mono (by assumption) (by first | exact Nat.le_refl _ | (simp; done) | omega | (simp; omega) | exact (‹_ ∧ _ ∧ Below _ _ _›).2.2.size)))))) | (go_at_call 107; refine (unhide HCO _ hbw1).mono ?_; rintro e w2 ⟨rfl, hb2⟩; obtain ⟨hcb2, hfb2⟩ := bcell hb2; (have hbw2 : Below w.heap.size w w2 := hbw1.trans (hb2.mono hbw1.size))) | (go_at_call 105; refine (unhide HCP _ hbw2).mono ?_; rintro e w3 ⟨A3, c3, L3, rfl, hp3, ho3, hb3⟩; obtain ⟨hcb3, hfb3⟩ := bcell hb3; (have hbw3 : Below w.heap.size w w3 := hbw2.trans (hb3.mono hbw2.size))))
    refine bodyPost_ret (v := .tuple #[.slice A3 P.length c3, .bool false]) (by simp [results, Try.results38, go_sem, *]) rfl ?_
    exact uitemsB_cast HR.out ⟨A3, c3, L3, rfl, hp3, ho3.wide hbw2.size (Nat.le_refl _), hbw3⟩
  · cases hk : idxNm P name with
    | none =>
      have HR := Lib.hid (dropped_no2 hk)
      have hI : idxI P name = -1 := by unfold idxI; rw [hk]
      simp only [hck] at hco
      simp only [hI] at hix
      have HIX := hide hix
      have HCO := hide hco
      clear hix hco hck hk hI
      go_enter Try.func38, Try.ntmps38
      go_wp2_with (first | (go_at_call 111; refine (unhide HIX _ (by exact (by repeat (first | (with_reducible exact Below.refl _ _) | (with_reducible assumption) | (with_reducible exact (‹_ ∧ _ ∧ Below _ _ _›).2.2) | (with_reducible refine below_drewN ?_ _) | (with_reducible refine Below.drew ?_) | ((with_reducible refine Below.alloc ?_ ?hsd _); (case hsd => (first | exact Nat.le_refl _ | (simp; done) | omega | (simp; omega) | exact (‹_ ∧ _ ∧ Below _ _ _›).2.2.size))) | ((with_reducible refine Below.setCell ?_ ?hsd _); (case hsd => (first | exact Nat.le_refl _ | (simp; done) | omega | (simp; omega) | exact (‹_ ∧ _ ∧ Below _ _ _›).2.2.size))) | ((with_reducible refine Below.trans ?_ (Below.mono (by with_reducible assumption) ?hsd)); (case hsd => (first | exact Nat.le_refl _ | (simp; done) | omega | (simp; omega) | exact (‹_ ∧ _ ∧ Below _ _ _›).2.2.size))) | exact Below.refl _ _ | assumption | exact (‹_ ∧ _ ∧ Below _ _ _›).2.2 | refine below_drewN ?_ _ | refine Below.drew ?_ | refine Below.alloc ?_ (by first | exact Nat.le_refl _ | (simp; done) | omega | (simp; omega) | exact (‹_ ∧ _ ∧ Below _ _ _›).2.2.size) _ | refine Below.setCell ?_ (by first | exact Nat.le_refl _ | (simp; done) | omega | (simp; omega) | exact (‹_ ∧ _ ∧ Below _ _ _›).2.2.size) _ | refine Below.trans ?_ (Below.mono (by assumption) (by first | exact Nat.le_refl _ | (simp; done) | omega | (simp; omega) | exact (‹_ ∧ _ ∧ Below _ _ _›).2.2.size)))))).mono ?_; rintro e w1 ⟨rfl, hb1⟩; obtain ⟨hcb1, hfb1⟩ := bcell hb1; (have hbw1 : Below w.heap.size w w1 := (by repeat (first | (with_reducible exact Below.refl _ _) | (with_reducible assumption) | (with_reducible exact (‹_ ∧ _ ∧ Below _ _ _›).2.2) | (with_reducible refine below_drewN ?_ _) | (with_reducible refine Below.drew ?_) | ((with_reducible refine Below.alloc ?_ ?hsd _); (case hsd => (first | exact Nat.le_refl _ | (simp; done) | omega | (simp; omega) | exact (‹_ ∧ _ ∧ Below _ _ _›).2.2.size))) | ((with_reducible refine Below.setCell ?_ ?hsd _); (case hsd => (first | exact Nat.le_refl _ | (simp; done) | omega | (simp; omega) | exact (‹_ ∧ _ ∧ Below _ _ _›).2.2.size))) | ((with_reducible refine Below.trans ?_ (Below.mono (by with_reducible assumption) ?hsd)); (case hsd => (first | exact Nat.le_refl _ | (simp; done) | omega | (simp; omega) | exact (‹_ ∧ _ ∧ Below _ _ _›).2.2.size))) | exact Below.refl _ _ | assumption | exact (‹_ ∧ _ ∧ Below _ _ _›).2.2 | refine below_drewN ?_ _ | refine Below.drew ?_ | refine Below.alloc ?_ (by first | exact Nat.le_refl _ | (simp; done) | omega | (simp; omega) | exact (‹_ ∧ _ ∧ Below _ _ _›).2.2.size) _ | refine Below.setCell ?_ (by first | exact Nat.le_refl _ | (simp; done) | omega | (simp; omega) | exact (‹_ ∧ _ ∧ Below _ _ _›).2.2.size) _ | refine Below.trans ?_ (Below.mono (by assumption) (by first | exact Nat.le_refl _ | (simp; done) | omega | (simp; omega) | exact (‹_ ∧ _ ∧ Below _ _ _›).2.2.size)))))) | (go_at_call 107; refine (unhide HCO _ hbw1).mono ?_; rintro e w2 ⟨rfl, hb2⟩; obtain ⟨hcb2, hfb2⟩ := bcell hb2; (have hbw2 : Below w.heap.size w w2 := hbw1.trans (hb2.mono hbw1.size))) | (go_at_call 105; refine (unhide HCP _ hbw2).mono ?_; rintro e w3 ⟨A3, c3, L3, rfl, hp3, ho3, hb3⟩; obtain ⟨hcb3, hfb3⟩ := bcell hb3; (have hbw3 : Below w.heap.size w w3 := hbw2.trans (hb3.mono hbw2.size))))
      refine bodyPost_ret (v := .tuple #[.slice A3 P.length c3, .bool false]) (by simp [results, Try.results38, go_sem, *]) rfl ?_
      exact uitemsB_cast HR.out ⟨A3, c3, L3, rfl, hp3, ho3.wide hbw2.size (Nat.le_refl _), hbw3⟩
    | some k =>
      have hkP : k < P.length := by
        unfold idxNm at hk
        exact (List.findIdx?_eq_some_iff_getElem.1 hk).1
      have hl : P.length = n := by rw [← hp, plI_len, hS.len]
      have hI : idxI P name = k := by unfold idxI; rw [hk]
      have HR := Lib.hid (dropped_yes hck hk)
      have hql : (P.take k ++ P.drop (k + 1)).length = P.length - 1 := by rw [List.length_append, List.length_take, List.length_drop]; omega
      have HQL := Lib.hid hql
      have HKP := Lib.hid hkP
      have hPn : P.length ≤ 16777216 := by omega
      have HPN := Lib.hid hPn
      have hkn : k < 16777216 := by omega
      simp only [hck] at hco
      simp only [hI] at hix
      have HIX := hide hix
      have HCO := hide hco
      clear hix hco hck hk hI hkP hl hp hql hPn
      go_enter Try.func38, Try.ntmps38
      go_wp2_with (first | (go_at_call 111; refine (unhide HIX _ (by exact (by repeat (first | (with_reducible exact Below.refl _ _) | (with_reducible assumption) | (with_reducible exact (‹_ ∧ _ ∧ Below _ _ _›).2.2) | (with_reducible refine below_drewN ?_ _) | (with_reducible refine Below.drew ?_) | ((with_reducible refine Below.alloc ?_ ?hsd _); (case hsd => (first | exact Nat.le_refl _ | (simp; done) | omega | (simp; omega) | exact (‹_ ∧ _ ∧ Below _ _ _›).2.2.size))) | ((with_reducible refine Below.setCell ?_ ?hsd _); (case hsd => (first | exact Nat.le_refl _ | (simp; done) | omega | (simp; omega) | exact (‹_ ∧ _ ∧ Below _ _ _›).2.2.size))) | ((with_reducible refine Below.trans ?_ (Below.mono (by with_reducible assumption) ?hsd)); (case hsd => (first | exact Nat.le_refl _ | (simp; done) | omega | (simp; omega) | exact (‹_ ∧ _ ∧ Below _ _ _›).2.2.size))) | exact Below.refl _ _ | assumption | exact (‹_ ∧ _ ∧ Below _ _ _›).2.2 | refine below_drewN ?_ _ | refine Below.drew ?_ | refine Below.alloc ?_ (by first | exact Nat.le_refl _ | (simp; done) | omega | (simp; omega) | exact (‹_ ∧ _ ∧ Below _ _ _›).2.2.size) _ | refine Below.setCell ?_ (by first | exact Nat.le_refl _ | (simp; done) | omega | (simp; omega) | exact (‹_ ∧ _ ∧ Below _ _ _›).2.2.size) _ | refine Below.trans ?_ (Below.mono (by assumption) (by first | exact Nat.le_refl _ | (simp; done) | omega | (simp; omega) | exact (‹_ ∧ _ ∧ Below _ _ _›).2.2.size)))))).mono ?_; rintro e w1 ⟨rfl, hb1⟩; obtain ⟨hcb1, hfb1⟩ := bcell hb1; (have hbw1 : Below w.heap.size w w1 := (by repeat (first | (with_reducible exact Below.refl _ _) | (with_reducible assumption) | (with_reducible exact (‹_ ∧ _ ∧ Below _ _ _›).2.2) | (with_reducible refine below_drewN ?_ _) | (with_reducible refine Below.drew ?_) | ((with_reducible refine Below.alloc ?_ ?hsd _); (case hsd => (first | exact Nat.le_refl _ | (simp; done) | omega | (simp; omega) | exact (‹_ ∧ _ ∧ Below _ _ _›).2.2.size))) | ((with_reducible refine Below.setCell ?_ ?hsd _); (case hsd => (first | exact Nat.le_refl _ | (simp; done) | omega | (simp; omega) | exact (‹_ ∧ _ ∧ Below _ _ _›).2.2.size))) | ((with_reducible refine Below.trans ?_ (Below.mono (by with_reducible assumption) ?hsd)); (case hsd => (first | exact Nat.le_refl _ | (simp; done) | omega | (simp; omega) | exact (‹_ ∧ _ ∧ Below _ _ _›).2.2.size))) | exact Below.refl _ _ | assumption | exact (‹_ ∧ _ ∧ Below _ _ _›).2.2 | refine below_drewN ?_ _ | refine Below.drew ?_ | refine Below.alloc ?_ (by first | exact Nat.le_refl _ | (simp; done) | omega | (simp; omega) | exact (‹_ ∧ _ ∧ Below _ _ _›).2.2.size) _ | refine Below.setCell ?_ (by first | exact Nat.le_refl _ | (simp; done) | omega | (simp; omega) | exact (‹_ ∧ _ ∧ Below _ _ _›).2.2.size) _ | refine Below.trans ?_ (Below.mono (by assumption) (by first | exact Nat.le_refl _ | (simp; done) | omega | (simp; omega) | exact (‹_ ∧ _ ∧ Below _ _ _›).2.2.size)))))) | (go_at_call 107; refine (unhide HCO _ hbw1).mono ?_; rintro e w2 ⟨rfl, hb2⟩; obtain ⟨hcb2, hfb2⟩ := bcell hb2; (have hbw2 : Below w.heap.size w w2 := hbw1.trans (hb2.mono hbw1.size))) | (go_at_call 105; refine (unhide HCP _ hbw2).mono ?_; rintro e w3 ⟨A3, c3, L3, rfl, hp3, ho3, hb3⟩; obtain ⟨hcb3, hfb3⟩ := bcell hb3; (have hbw3 : Below w.heap.size w w3 := hbw2.trans (hb3.mono hbw2.size)); obtain ⟨g, cap, hv, hbg, hglt⟩ := ho3.row.form (by have := HKP.out; omega); (have hA : A3 = some ⟨g, 0, none⟩ := (by injection hv)); subst hA; clear hv; replace ho3 := hide ho3; replace hp3 := hide hp3) | (go_at_call 112; refine (del_item _ g _ _ k (k + 1) L3 _ (unhide ho3).row HKP.out rfl HPN.out).mono ?_; rintro e w4 ⟨rfl, hr4, hg4⟩))
      have ho3 := unhide ho3
      have hp3 := unhide hp3
      have hb4 : Below w3.heap.size w3 w3 := Below.refl _ _
      refine bodyPost_ret (v := .tuple #[.slice (some ⟨g, 0, none⟩) (P.length - 1) c3, .bool true]) (by simp [results, Try.results38, go_sem, *]) rfl ?_
      refine uitemsB_cast HR.out ⟨some ⟨g, 0, none⟩, c3, L3.take k ++ L3.drop (k + 1), by rw [HQL.out], ?_, ?_, ?_⟩
      · rw [← hp3]; simp [plI, List.map_take, List.map_drop]
      · rw [HQL.out]
        have h4 := ho3.erase hg4 hr4 (sub_erase L3 k)
        exact h4.wide hbw2.size (Nat.le_refl _)
      · exact hbw2.trans ((hb3.trans (grown_below hg4 (by intro q hq; injection hq with hq; omega) (by have := hb3.size; omega))).mono hbw2.size)
end Go.Proofs.Ytmmohnbmoilaaaa
